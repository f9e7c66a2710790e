/- Draws of instructions. Condition: fewer than 2^40 picks so far. -/
import Derived.Test.YtbicpkmlionldaaVDrawM
import Derived.Test.YtbicpkmlionldaaVP5
import Derived.Test.YtbicpkmlionldaaVP1
namespace Go.Proofs.Ytbicpkmlionldaa.DrawC
open Go.RowKit Kit Draw DrawX MarkC
set_option linter.unusedVariables false
/-- an instruction drawn by at most c picks -/
def GotI (w : World) (br p c : Nat) (e : Ending) (w' : World) : Prop := ∃ (y : Ins) (q : Nat), e = .returned (.agg #[.int .i64 y.op, .int .i64 y.a, .int .i64 y.b, .int .i64 y.c, .int .i64 y.d]) ∧ One br w w' ∧ Rd w' br q ∧ q ≤ p + c
theorem letters4 {op : Int} (h1 : 1 ≤ op) (h2 : op ≤ 13) : (Val.lettersS op).length ≤ 4 := by
  obtain rfl | rfl | rfl | rfl | rfl | rfl | rfl | rfl | rfl | rfl | rfl | rfl | rfl : op = 1 ∨ op = 2 ∨ op = 3 ∨ op = 4 ∨ op = 5 ∨ op = 6 ∨ op = 7 ∨ op = 8 ∨ op = 9 ∨ op = 10 ∨ op = 11 ∨ op = 12 ∨ op = 13 := by omega
  all_goals decide
theorem four (w : World) (T : TypeId) : OwnF 1 encI (w.alloc (.cells #[.int .i64 0, .int .i64 0, .int .i64 0, .int .i64 0] T)) w.heap.size T (.slice (some ⟨w.heap.size, 0, none⟩) 4 4) [0, 0, 0, 0] :=
  OwnF.mk' (enc := encI) (n := 1) (xs := [0, 0, 0, 0]) (alloc_heap _ _) (Nat.le_refl _) (by simp) (by decide) (by simp) fun i hi t ht => by
    obtain rfl : t = 0 := by omega
    match i, hi with
    | 0, _ => rfl
    | 1, _ => rfl
    | 2, _ => rfl
    | 3, _ => rfl
def LR (w : World) (br p bo bf : Nat) (vp : Array Value) (x : Int) (m : Nat) (wr : World) : Prop := ∃ (ps : List Int) (q : Nat), ps.length = 4 ∧ One br w wr ∧ Rd wr br q ∧ q ≤ p + 1 + m ∧ wr.heap[w.heap.size]? = some (.cells vp 26 (0, 0)) ∧ wr.heap[w.heap.size + 1]? = some (.cells #[.int .i64 0, .int .i64 0, .int .i64 0, .int .i64 0, .int .i64 0] 42 (0, 0)) ∧ wr.heap[bo]? = some (.cells #[.int .i64 x, .int .i64 0, .int .i64 0, .int .i64 0, .int .i64 0] 42 (0, 0)) ∧
  OwnF 1 encI wr bf 3 (.slice (some ⟨bf, 0, none⟩) 4 4) ps
set_option maxHeartbeats 16000000 in
set_option maxRecDepth 100000 in
theorem l6Random (w : World) (br p at_ n : Nat) (a1 a2 a3 : Option Addr) (nv d1 na d2 nb d3 : Nat) (h : Rd w br p) (hp : p + 20 < 1099511627776) (hat : at_ ≤ 1000) (hn : n ≤ 1000) (hnv : nv ≤ 1000000) (hna : na ≤ 1000000) :
    Calls Try.prog 82 #[.pointer (some ⟨br, 0, none⟩), .agg #[.slice a1 nv d1, .slice a2 na d2, .slice a3 nb d3], .int .i64 at_, .int .i64 n] w (GotI w br p 5) := by
  have hbl := h.lt
  go_enter Try.func82, Try.ntmps82
  go_upto_region 1 with fail
  have N0 : New w ((w.alloc (.cells #[.slice a1 nv d1, .slice a2 na d2, .slice a3 nb d3] 26)).alloc (.cells #[.int .i64 0, .int .i64 0, .int .i64 0, .int .i64 0, .int .i64 0] 42)) := ((Kp.refl _ _).alloc _).alloc _
  have bP_0 : ((w.alloc (.cells #[.slice a1 nv d1, .slice a2 na d2, .slice a3 nb d3] 26)).alloc (.cells #[.int .i64 0, .int .i64 0, .int .i64 0, .int .i64 0, .int .i64 0] 42)).heap[w.heap.size]? = some (.cells #[.slice a1 nv d1, .slice a2 na d2, .slice a3 nb d3] 26) := heap_old (alloc_heap _ _)
  have bR_0 : ((w.alloc (.cells #[.slice a1 nv d1, .slice a2 na d2, .slice a3 nb d3] 26)).alloc (.cells #[.int .i64 0, .int .i64 0, .int .i64 0, .int .i64 0, .int .i64 0] 42)).heap[w.heap.size + 1]? = some (.cells #[.int .i64 0, .int .i64 0, .int .i64 0, .int .i64 0, .int .i64 0] 42) := heap_at (by simp)
  have z0 : w.heap.size + 1 < ((w.alloc (.cells #[.slice a1 nv d1, .slice a2 na d2, .slice a3 nb d3] 26)).alloc (.cells #[.int .i64 0, .int .i64 0, .int .i64 0, .int .i64 0, .int .i64 0] 42)).heap.size := by simp
  generalize ((w.alloc (.cells #[.slice a1 nv d1, .slice a2 na d2, .slice a3 nb d3] 26)).alloc (.cells #[.int .i64 0, .int .i64 0, .int .i64 0, .int .i64 0, .int .i64 0] 42)) = w0 at *
  have r0 := h.nw N0
  have K0 : One br w w0 := N0.mono (fun _ _ f => f.elim)
  clear N0 h
  go_wp2_with fail
  have hNr := r0.lt
  refine (num _ br (p) _ 12 _ (fun x => 1 ≤ x ∧ x ≤ 12) (r0.keep (S := fun _ => False) ((Kp.refl _ _).alloc _) (fun _ f => f.elim)) (by omega) (by omega) (by omega) (by omega) ?_).mono ?_
  · intro i hi
    match i, hi with
    | 0, _ => exact ⟨_, by decide, World.cell?_alloc_new _ _ _ _⟩
    | 1, _ => exact ⟨_, by decide, World.cell?_alloc_new _ _ _ _⟩
    | 2, _ => exact ⟨_, by decide, World.cell?_alloc_new _ _ _ _⟩
    | 3, _ => exact ⟨_, by decide, World.cell?_alloc_new _ _ _ _⟩
    | 4, _ => exact ⟨_, by decide, World.cell?_alloc_new _ _ _ _⟩
    | 5, _ => exact ⟨_, by decide, World.cell?_alloc_new _ _ _ _⟩
    | 6, _ => exact ⟨_, by decide, World.cell?_alloc_new _ _ _ _⟩
    | 7, _ => exact ⟨_, by decide, World.cell?_alloc_new _ _ _ _⟩
    | 8, _ => exact ⟨_, by decide, World.cell?_alloc_new _ _ _ _⟩
    | 9, _ => exact ⟨_, by decide, World.cell?_alloc_new _ _ _ _⟩
    | 10, _ => exact ⟨_, by decide, World.cell?_alloc_new _ _ _ _⟩
    | 11, _ => exact ⟨_, by decide, World.cell?_alloc_new _ _ _ _⟩
  rintro e w1 ⟨x, rfl, ⟨x1, x2⟩, k1, r1⟩
  have hn1 : One br w0 w1 := ((Kp.refl (fun k => k = br) w0).alloc _).trans k1
  clear k1 hNr
  have z1 := hn1.size
  have bP_1 := hn1.bo bP_0
  have bR_1 := hn1.bo bR_0
  have K1 := K0.trans hn1
  clear bP_0 bR_0 K0 r0 hn1
  obtain ⟨hn2, y2, bE_2⟩ := newb w1 (.cells #[.int .i64 x, .int .i64 0, .int .i64 0, .int .i64 0, .int .i64 0] 42)
  go_upto_region 2 with fail
  generalize hbo : w1.heap.size = bo at bE_2 y2 ⊢
  have hbo2 : w.heap.size + 1 < bo := by omega
  have hbr : br < bo := by have := r1.lt; omega
  generalize w1.alloc (.cells #[.int .i64 x, .int .i64 0, .int .i64 0, .int .i64 0, .int .i64 0] 42) = w2 at *
  have z2 := hn2.size
  have bP_2 := hn2.bk bP_1
  have bR_2 := hn2.bk bR_1
  have K2 := K1.nw hn2
  have r2 := r1.nw hn2
  clear bP_1 bR_1 K1 r1 hn2
  by_cases hz0 : ¬ na = 0
  · have hz1 : ((na : Int) == 0) = false := by simpa using hz0
    obtain ⟨cP0, cP1, cP2⟩ := cells3 bP_2
    have lP := heap_lt bP_2
    obtain ⟨cE0, cE1, cE2, cE3, cE4⟩ := cells5 bE_2
    have fE := frozen_of_heap bE_2
    have lE := heap_lt bE_2
    go_wp2_with fail
    clear cP0 cP1 cP2 lP cE0 cE1 cE2 cE3 cE4 fE lE
    refine (CodeV.l6Fields (w := w2) (op := x) (by omega) (by omega)).mono ?_
    rintro e w3 ⟨ks, rfl, hks, hn3⟩
    have z3 := hn3.size
    have bP_3 := hn3.bk bP_2
    have bR_3 := hn3.bk bR_2
    have bE_3 := hn3.bk bE_2
    have K3 := K2.nw hn3
    have r3 := r2.nw hn3
    clear bP_2 bR_2 bE_2 K2 r2 hn3
    obtain ⟨kn, hkn⟩ : ∃ kn, ks.size = kn := ⟨_, rfl⟩
    have kl : kn ≤ 4 := by rw [← hkn]; rw [CodeV.ba_len hks]; exact letters4 (op := x) (by omega) (by omega)
    clear hks
    have hn4 : New w3 (w3.alloc (.cells #[.int .i64 0, .int .i64 0, .int .i64 0, .int .i64 0] 3)) := (Kp.refl _ _).alloc _
    have y4 : w3.heap.size < (w3.alloc (.cells #[.int .i64 0, .int .i64 0, .int .i64 0, .int .i64 0] 3)).heap.size := lt_alloc _ _
    have oF_4 := four w3 3
    go_wp2_with fail
    generalize hbf : w3.heap.size = bf at oF_4 y4 ⊢
    have hbf2 : bo < bf := by have := heap_lt bE_3; omega
    generalize (w3.alloc (.cells #[.int .i64 0, .int .i64 0, .int .i64 0, .int .i64 0] 3)) = w4 at *
    have z4 := hn4.size
    have bP_4 := hn4.bk bP_3
    have bR_4 := hn4.bk bR_3
    have bE_4 := hn4.bk bE_3
    have K4 := K3.nw hn4
    have r4 := r3.nw hn4
    clear bP_3 bR_3 bE_3 K3 r3 hn4
    have hL : LR w br p bo bf #[.slice a1 nv d1, .slice a2 na d2, .slice a3 nb d3] (x) 0 w4 := ⟨[0, 0, 0, 0], p + 1, rfl, K4, r4, by omega, bP_4, bR_4, bE_4, oF_4⟩
    have hLh := Lib.hid hL
    clear hL K4 r4 bP_4 bR_4 bE_4 oF_4
    go_loopw [12] (fun i wr => ∃ j : Nat, j ≤ kn ∧ i = .int .i64 j ∧ LR w br p bo bf #[.slice a1 nv d1, .slice a2 na d2, .slice a3 nb d3] (x) j wr) (fun i _ => kn - (intOf i).toNat)
    case atStart => exact ⟨0, Nat.zero_le _, rfl, hLh.out⟩
    case round =>
      obtain ⟨j, hj, rfl, ps, q, hl, K0, r0, hq, bP_0, bR_0, bE_0, hF⟩ := hrel
      clear hLh
      have oF_0 := Lib.hid hF
      have hlF := Lib.hid hl
      have zw := K0.size
      have zE := heap_lt bE_0
      have hbr2 := r0.lt
      clear hl hF
      by_cases hlt : j < kn
      · have hk : j < ks.size := by omega
        go_upto_region 11 with fail
        generalize ((ks[j].toNat : Nat) : Int) = y at *
        by_cases hy114 : y = 114
        · subst hy114
          obtain ⟨cP0, cP1, cP2⟩ := cells3 bP_0
          have lP := heap_lt bP_0
          go_wp2_with fail
          refine (pick wr br (q) _ r0 (by omega)).mono ?_
          rintro e w1 ⟨v, rfl, v0, v1, v2, hn1, r1⟩
          have z1 := hn1.size
          have bP_1 := hn1.bo bP_0
          have bR_1 := hn1.bo bR_0
          have bE_1 := hn1.bo bE_0
          have oF_1 := Lib.hid (oF_0.out.kb hn1 (fun b e => by omega))
          have K1 := K0.trans hn1
          clear cP0 cP1 cP2 lP
          clear bP_0 bR_0 bE_0 oF_0 K0 r0 hn1
          clear v1 v2
          obtain ⟨-, g, ge, gc, gf⟩ := own_cells oF_1.out (by rw [hlF.out]; decide)
          cases ge
          obtain ⟨u, gcj⟩ : ∃ u : Int, w1.cell? ⟨bf, j, none⟩ = some (.int .i64 u) := ⟨_, gc j (by have := hlF.out; omega)⟩
          have gfj := gf j
          have gsh := Lib.hid (OwnF.set1 (enc := encI) (xs := ps) (show OwnF 1 encI w1 bf 3 (.slice (some ⟨bf, 0, none⟩) ps.length 4) ps by rw [hlF.out]; exact oF_1.out) j (by have := hlF.out; omega) (v))
          have gl : (ps.set j (v)).length = 4 := by rw [List.length_set]; exact hlF.out
          clear gc gf
          have kz : Kp (fun b => b = bf) w1 (w1.setCell ⟨bf, j, none⟩ (.int .i64 (v))) := (Kp.refl (fun b => b = bf) _).setCell (.inl rfl) _
          have hlF2 := hlF.out
          have hL : LR w br p bo bf #[.slice a1 nv d1, .slice a2 na d2, .slice a3 nb d3] (x) (j + 1) (w1.setCell ⟨bf, j, none⟩ (.int .i64 (v))) := ⟨ps.set j (v), q + 1, gl, one_on K1 kz (by omega), r1.keep kz (fun b e => by omega), by omega, (kz.block _ (heap_lt bP_1) (by omega)).trans bP_1, (kz.block _ (heap_lt bR_1) (by omega)).trans bR_1, (kz.block _ (heap_lt bE_1) (by omega)).trans bE_1, by have := gsh.out; rw [hlF2] at this; exact this⟩
          have hLh := Lib.hid hL
          clear hL kz K1 r1 bP_1 bR_1 bE_1 oF_1 gl gsh hlF hlF2
          go_wp2
          go_roundw
          case rel => exact ⟨j + 1, by omega, by go_num, hLh.out⟩
          case measure => simp [intOf]; omega
        have hz114 : (y == 114) = false := by simpa using hy114
        by_cases hy99 : y = 99
        · subst hy99
          obtain ⟨cP0, cP1, cP2⟩ := cells3 bP_0
          have lP := heap_lt bP_0
          go_wp2_with fail
          refine (DrawV.l3Value wr br (q) r0 (by omega)).mono ?_
          rintro e w1 ⟨v, rfl, ⟨v0, v1⟩, hn1, r1⟩
          have z1 := hn1.size
          have bP_1 := hn1.bo bP_0
          have bR_1 := hn1.bo bR_0
          have bE_1 := hn1.bo bE_0
          have oF_1 := Lib.hid (oF_0.out.kb hn1 (fun b e => by omega))
          have K1 := K0.trans hn1
          clear cP0 cP1 cP2 lP
          clear bP_0 bR_0 bE_0 oF_0 K0 r0 hn1
          obtain ⟨-, g, ge, gc, gf⟩ := own_cells oF_1.out (by rw [hlF.out]; decide)
          cases ge
          obtain ⟨u, gcj⟩ : ∃ u : Int, w1.cell? ⟨bf, j, none⟩ = some (.int .i64 u) := ⟨_, gc j (by have := hlF.out; omega)⟩
          have gfj := gf j
          have gsh := Lib.hid (OwnF.set1 (enc := encI) (xs := ps) (show OwnF 1 encI w1 bf 3 (.slice (some ⟨bf, 0, none⟩) ps.length 4) ps by rw [hlF.out]; exact oF_1.out) j (by have := hlF.out; omega) (v))
          have gl : (ps.set j (v)).length = 4 := by rw [List.length_set]; exact hlF.out
          clear gc gf
          have kz : Kp (fun b => b = bf) w1 (w1.setCell ⟨bf, j, none⟩ (.int .i64 (v))) := (Kp.refl (fun b => b = bf) _).setCell (.inl rfl) _
          have hlF2 := hlF.out
          have hL : LR w br p bo bf #[.slice a1 nv d1, .slice a2 na d2, .slice a3 nb d3] (x) (j + 1) (w1.setCell ⟨bf, j, none⟩ (.int .i64 (v))) := ⟨ps.set j (v), q + 1, gl, one_on K1 kz (by omega), r1.keep kz (fun b e => by omega), by omega, (kz.block _ (heap_lt bP_1) (by omega)).trans bP_1, (kz.block _ (heap_lt bR_1) (by omega)).trans bR_1, (kz.block _ (heap_lt bE_1) (by omega)).trans bE_1, by have := gsh.out; rw [hlF2] at this; exact this⟩
          have hLh := Lib.hid hL
          clear hL kz K1 r1 bP_1 bR_1 bE_1 oF_1 gl gsh hlF hlF2
          go_wp2
          go_roundw
          case rel => exact ⟨j + 1, by omega, by go_num, hLh.out⟩
          case measure => simp [intOf]; omega
        have hz99 : (y == 99) = false := by simpa using hy99
        by_cases hy118 : y = 118
        · subst hy118
          obtain ⟨cP0, cP1, cP2⟩ := cells3 bP_0
          have lP := heap_lt bP_0
          go_wp2_with fail
          refine (pick wr br (q) _ r0 (by omega)).mono ?_
          rintro e w1 ⟨v, rfl, v0, v1, v2, hn1, r1⟩
          have z1 := hn1.size
          have bP_1 := hn1.bo bP_0
          have bR_1 := hn1.bo bR_0
          have bE_1 := hn1.bo bE_0
          have oF_1 := Lib.hid (oF_0.out.kb hn1 (fun b e => by omega))
          have K1 := K0.trans hn1
          clear cP0 cP1 cP2 lP
          clear bP_0 bR_0 bE_0 oF_0 K0 r0 hn1
          clear v1 v2
          obtain ⟨-, g, ge, gc, gf⟩ := own_cells oF_1.out (by rw [hlF.out]; decide)
          cases ge
          obtain ⟨u, gcj⟩ : ∃ u : Int, w1.cell? ⟨bf, j, none⟩ = some (.int .i64 u) := ⟨_, gc j (by have := hlF.out; omega)⟩
          have gfj := gf j
          have gsh := Lib.hid (OwnF.set1 (enc := encI) (xs := ps) (show OwnF 1 encI w1 bf 3 (.slice (some ⟨bf, 0, none⟩) ps.length 4) ps by rw [hlF.out]; exact oF_1.out) j (by have := hlF.out; omega) (v))
          have gl : (ps.set j (v)).length = 4 := by rw [List.length_set]; exact hlF.out
          clear gc gf
          have kz : Kp (fun b => b = bf) w1 (w1.setCell ⟨bf, j, none⟩ (.int .i64 (v))) := (Kp.refl (fun b => b = bf) _).setCell (.inl rfl) _
          have hlF2 := hlF.out
          have hL : LR w br p bo bf #[.slice a1 nv d1, .slice a2 na d2, .slice a3 nb d3] (x) (j + 1) (w1.setCell ⟨bf, j, none⟩ (.int .i64 (v))) := ⟨ps.set j (v), q + 1, gl, one_on K1 kz (by omega), r1.keep kz (fun b e => by omega), by omega, (kz.block _ (heap_lt bP_1) (by omega)).trans bP_1, (kz.block _ (heap_lt bR_1) (by omega)).trans bR_1, (kz.block _ (heap_lt bE_1) (by omega)).trans bE_1, by have := gsh.out; rw [hlF2] at this; exact this⟩
          have hLh := Lib.hid hL
          clear hL kz K1 r1 bP_1 bR_1 bE_1 oF_1 gl gsh hlF hlF2
          go_wp2
          go_roundw
          case rel => exact ⟨j + 1, by omega, by go_num, hLh.out⟩
          case measure => simp [intOf]; omega
        have hz118 : (y == 118) = false := by simpa using hy118
        by_cases hy97 : y = 97
        · subst hy97
          obtain ⟨cP0, cP1, cP2⟩ := cells3 bP_0
          have lP := heap_lt bP_0
          go_wp2_with fail
          refine (pick wr br (q) _ r0 (by omega)).mono ?_
          rintro e w1 ⟨v, rfl, v0, v1, v2, hn1, r1⟩
          have z1 := hn1.size
          have bP_1 := hn1.bo bP_0
          have bR_1 := hn1.bo bR_0
          have bE_1 := hn1.bo bE_0
          have oF_1 := Lib.hid (oF_0.out.kb hn1 (fun b e => by omega))
          have K1 := K0.trans hn1
          clear cP0 cP1 cP2 lP
          clear bP_0 bR_0 bE_0 oF_0 K0 r0 hn1
          clear v1 v2
          obtain ⟨-, g, ge, gc, gf⟩ := own_cells oF_1.out (by rw [hlF.out]; decide)
          cases ge
          obtain ⟨u, gcj⟩ : ∃ u : Int, w1.cell? ⟨bf, j, none⟩ = some (.int .i64 u) := ⟨_, gc j (by have := hlF.out; omega)⟩
          have gfj := gf j
          have gsh := Lib.hid (OwnF.set1 (enc := encI) (xs := ps) (show OwnF 1 encI w1 bf 3 (.slice (some ⟨bf, 0, none⟩) ps.length 4) ps by rw [hlF.out]; exact oF_1.out) j (by have := hlF.out; omega) (v))
          have gl : (ps.set j (v)).length = 4 := by rw [List.length_set]; exact hlF.out
          clear gc gf
          have kz : Kp (fun b => b = bf) w1 (w1.setCell ⟨bf, j, none⟩ (.int .i64 (v))) := (Kp.refl (fun b => b = bf) _).setCell (.inl rfl) _
          have hlF2 := hlF.out
          have hL : LR w br p bo bf #[.slice a1 nv d1, .slice a2 na d2, .slice a3 nb d3] (x) (j + 1) (w1.setCell ⟨bf, j, none⟩ (.int .i64 (v))) := ⟨ps.set j (v), q + 1, gl, one_on K1 kz (by omega), r1.keep kz (fun b e => by omega), by omega, (kz.block _ (heap_lt bP_1) (by omega)).trans bP_1, (kz.block _ (heap_lt bR_1) (by omega)).trans bR_1, (kz.block _ (heap_lt bE_1) (by omega)).trans bE_1, by have := gsh.out; rw [hlF2] at this; exact this⟩
          have hLh := Lib.hid hL
          clear hL kz K1 r1 bP_1 bR_1 bE_1 oF_1 gl gsh hlF hlF2
          go_wp2
          go_roundw
          case rel => exact ⟨j + 1, by omega, by go_num, hLh.out⟩
          case measure => simp [intOf]; omega
        have hz97 : (y == 97) = false := by simpa using hy97
        by_cases hy111 : y = 111
        · subst hy111
          obtain ⟨cP0, cP1, cP2⟩ := cells3 bP_0
          have lP := heap_lt bP_0
          go_wp2_with fail
          refine (pick wr br (q) _ r0 (by omega)).mono ?_
          rintro e w1 ⟨v, rfl, v0, v1, v2, hn1, r1⟩
          have z1 := hn1.size
          have bP_1 := hn1.bo bP_0
          have bR_1 := hn1.bo bR_0
          have bE_1 := hn1.bo bE_0
          have oF_1 := Lib.hid (oF_0.out.kb hn1 (fun b e => by omega))
          have K1 := K0.trans hn1
          clear cP0 cP1 cP2 lP
          clear bP_0 bR_0 bE_0 oF_0 K0 r0 hn1
          have v7 : v < 7 := v1 (by omega)
          have hwr : IntKind.i64.wrap (4 + v) = 4 + v := IntWalk.i64_in _ (by omega)
          clear v1 v2
          obtain ⟨-, g, ge, gc, gf⟩ := own_cells oF_1.out (by rw [hlF.out]; decide)
          cases ge
          obtain ⟨u, gcj⟩ : ∃ u : Int, w1.cell? ⟨bf, j, none⟩ = some (.int .i64 u) := ⟨_, gc j (by have := hlF.out; omega)⟩
          have gfj := gf j
          have gsh := Lib.hid (OwnF.set1 (enc := encI) (xs := ps) (show OwnF 1 encI w1 bf 3 (.slice (some ⟨bf, 0, none⟩) ps.length 4) ps by rw [hlF.out]; exact oF_1.out) j (by have := hlF.out; omega) (4 + v))
          have gl : (ps.set j (4 + v)).length = 4 := by rw [List.length_set]; exact hlF.out
          clear gc gf
          have kz : Kp (fun b => b = bf) w1 (w1.setCell ⟨bf, j, none⟩ (.int .i64 (4 + v))) := (Kp.refl (fun b => b = bf) _).setCell (.inl rfl) _
          have hlF2 := hlF.out
          have hL : LR w br p bo bf #[.slice a1 nv d1, .slice a2 na d2, .slice a3 nb d3] (x) (j + 1) (w1.setCell ⟨bf, j, none⟩ (.int .i64 (4 + v))) := ⟨ps.set j (4 + v), q + 1, gl, one_on K1 kz (by omega), r1.keep kz (fun b e => by omega), by omega, (kz.block _ (heap_lt bP_1) (by omega)).trans bP_1, (kz.block _ (heap_lt bR_1) (by omega)).trans bR_1, (kz.block _ (heap_lt bE_1) (by omega)).trans bE_1, by have := gsh.out; rw [hlF2] at this; exact this⟩
          have hLh := Lib.hid hL
          clear hL kz K1 r1 bP_1 bR_1 bE_1 oF_1 gl gsh hlF hlF2
          go_wp2
          go_roundw
          case rel => exact ⟨j + 1, by omega, by go_num, hLh.out⟩
          case measure => simp [intOf]; omega
        have hz111 : (y == 111) = false := by simpa using hy111
        have hw1 : IntKind.i64.wrap ((at_ : Int) + 1) = (at_ : Int) + 1 := IntWalk.i64_in _ (by omega)
        have hw2 : IntKind.i64.wrap ((n : Int) - at_) = (n : Int) - at_ := IntWalk.i64_in _ (by omega)
        have hw3 : IntKind.i64.wrap ((n : Int) - at_ - 1) = (n : Int) - at_ - 1 := IntWalk.i64_in _ (by omega)
        obtain ⟨cP0, cP1, cP2⟩ := cells3 bP_0
        have lP := heap_lt bP_0
        go_wp2_with fail
        refine (pick wr br (q) _ r0 (by omega)).mono ?_
        rintro e w1 ⟨v, rfl, v0, v1, v2, hn1, r1⟩
        have z1 := hn1.size
        have bP_1 := hn1.bo bP_0
        have bR_1 := hn1.bo bR_0
        have bE_1 := hn1.bo bE_0
        have oF_1 := Lib.hid (oF_0.out.kb hn1 (fun b e => by omega))
        have K1 := K0.trans hn1
        clear cP0 cP1 cP2 lP
        clear bP_0 bR_0 bE_0 oF_0 K0 r0 hn1
        have v8 : v ≤ 1000 := by
          by_cases hz : 1 ≤ (n : Int) - at_ - 1
          · have := v1 hz; omega
          · have := v2 (by omega); omega
        have hwr : IntKind.i64.wrap ((at_ : Int) + 1 + v) = (at_ : Int) + 1 + v := IntWalk.i64_in _ (by omega)
        clear v1 v2
        obtain ⟨-, g, ge, gc, gf⟩ := own_cells oF_1.out (by rw [hlF.out]; decide)
        cases ge
        obtain ⟨u, gcj⟩ : ∃ u : Int, w1.cell? ⟨bf, j, none⟩ = some (.int .i64 u) := ⟨_, gc j (by have := hlF.out; omega)⟩
        have gfj := gf j
        have gsh := Lib.hid (OwnF.set1 (enc := encI) (xs := ps) (show OwnF 1 encI w1 bf 3 (.slice (some ⟨bf, 0, none⟩) ps.length 4) ps by rw [hlF.out]; exact oF_1.out) j (by have := hlF.out; omega) ((at_ : Int) + 1 + v))
        have gl : (ps.set j ((at_ : Int) + 1 + v)).length = 4 := by rw [List.length_set]; exact hlF.out
        clear gc gf
        have kz : Kp (fun b => b = bf) w1 (w1.setCell ⟨bf, j, none⟩ (.int .i64 ((at_ : Int) + 1 + v))) := (Kp.refl (fun b => b = bf) _).setCell (.inl rfl) _
        have hlF2 := hlF.out
        have hL : LR w br p bo bf #[.slice a1 nv d1, .slice a2 na d2, .slice a3 nb d3] (x) (j + 1) (w1.setCell ⟨bf, j, none⟩ (.int .i64 ((at_ : Int) + 1 + v))) := ⟨ps.set j ((at_ : Int) + 1 + v), q + 1, gl, one_on K1 kz (by omega), r1.keep kz (fun b e => by omega), by omega, (kz.block _ (heap_lt bP_1) (by omega)).trans bP_1, (kz.block _ (heap_lt bR_1) (by omega)).trans bR_1, (kz.block _ (heap_lt bE_1) (by omega)).trans bE_1, by have := gsh.out; rw [hlF2] at this; exact this⟩
        have hLh := Lib.hid hL
        clear hL kz K1 r1 bP_1 bR_1 bE_1 oF_1 gl gsh hlF hlF2
        go_wp2
        go_roundw
        case rel => exact ⟨j + 1, by omega, by go_num, hLh.out⟩
        case measure => simp [intOf]; omega
      · have hje : j = kn := by omega
        subst hje
        clear hlt hj
        have hl4 := hlF.out
        match ps, hl4 with
        | [p0, p1, p2, p3], _ =>
          obtain ⟨-, g, ge, gc, gf⟩ := own_cells oF_0.out (by simp)
          cases ge
          have g0 : wr.cell? ⟨bf, 0, none⟩ = some (.int .i64 p0) := gc 0 (by simp)
          have g1 : wr.cell? ⟨bf, 1, none⟩ = some (.int .i64 p1) := gc 1 (by simp)
          have g2 : wr.cell? ⟨bf, 2, none⟩ = some (.int .i64 p2) := gc 2 (by simp)
          have g3 : wr.cell? ⟨bf, 3, none⟩ = some (.int .i64 p3) := gc 3 (by simp)
          clear gc gf oF_0 hlF
          have cE0 := cell_of_heap bE_0 0
          have lE := heap_lt bE_0
          obtain ⟨cR0, cR1, cR2, cR3, cR4⟩ := cells5 bR_0
          have fR := frozen_of_heap bR_0
          have lR := heap_lt bR_0
          go_wp2_with fail
          refine wp_region_tail (k := 15) (S := fun w' => w'.cell? ⟨bo, 0, none⟩ = some (.int .i64 x) ∧ w'.cell? ⟨bf, 0, none⟩ = some (.int .i64 p0) ∧ w'.cell? ⟨bf, 1, none⟩ = some (.int .i64 p1) ∧ w'.cell? ⟨bf, 2, none⟩ = some (.int .i64 p2) ∧ w'.cell? ⟨bf, 3, none⟩ = some (.int .i64 p3)) (by kernel_rfl) ?_ (fun hHeld => ?_)
          · exact ⟨cE0, g0, g1, g2, g3⟩
          clear cE0 lE cR0 cR1 cR2 cR3 cR4 fR lR
          have hn1 : New wr wr.drew := (Kp.refl _ _).drew
          generalize wr.drew = w1 at *
          have z1 := hn1.size
          have bR_1 := hn1.bk bR_0
          have bE_1 := hn1.bk bE_0
          have K1 := K0.nw hn1
          have r1 := r0.nw hn1
          clear bR_0 bE_0 K0 r0 hn1
          refine AnyK.tw 0 rfl ?_
          try simp only [AP]
          refine AnyK.tk 1 rfl ?_
          try simp only [AP]
          refine AnyK.tw 2 rfl ?_
          try simp only [AP]
          refine AnyK.tw 3 rfl ?_
          try simp only [AP]
          refine AnyK.tk 4 rfl ?_
          try simp only [AP]
          refine AnyK.tw 5 rfl ?_
          try simp only [AP]
          refine AnyK.tw 6 rfl ?_
          try simp only [AP]
          refine AnyK.tk 7 rfl ?_
          try simp only [AP]
          refine AnyK.tw 8 rfl ?_
          try simp only [AP]
          refine AnyK.tw 9 rfl ?_
          try simp only [AP]
          refine AnyK.tk 10 rfl ?_
          try simp only [AP]
          refine AnyK.tw 11 rfl ?_
          try simp only [AP]
          refine AnyK.tw 12 rfl ?_
          try simp only [AP]
          refine AnyK.tk 13 rfl ?_
          try simp only [AP]
          refine AnyK.tw 14 rfl ?_
          try simp only [AP]
          refine AnyK.last (by kernel_rfl) ?_
          simp only [List.drop_succ_cons, List.drop_zero]
          clear hHeld
          obtain ⟨cR0, cR1, cR2, cR3, cR4⟩ := cells5 bR_1
          have fR := frozen_of_heap bR_1
          have lR := heap_lt bR_1
          go_wp2
          have hkz := setMany_kp (w.heap.size + 1) [.int .i64 x, .int .i64 p0, .int .i64 p1, .int .i64 p2, .int .i64 p3] w1 0
          have zs := setMany_size (w.heap.size + 1) [.int .i64 x, .int .i64 p0, .int .i64 p1, .int .i64 p2, .int .i64 p3] w1 0
          have hR := setMany_row [.int .i64 x, .int .i64 p0, .int .i64 p1, .int .i64 p2, .int .i64 p3] bR_1 rfl
          exact bodyPost_ret (results_cell_row rfl _ _ _ _ _ _ _ rfl hR Try.underlying42 rfl (by kernel_rfl)) rfl ⟨⟨x, p0, p1, p2, p3⟩, q, rfl, one_on K1 hkz (by omega), r1.keep hkz (fun b e => by omega), by omega⟩
  have hna0 : na = 0 := by omega
  clear hz0
  subst hna0
  by_cases hx4 : x = 4
  · subst hx4
    obtain ⟨cP0, cP1, cP2⟩ := cells3 bP_2
    have lP := heap_lt bP_2
    obtain ⟨cE0, cE1, cE2, cE3, cE4⟩ := cells5 bE_2
    have fE := frozen_of_heap bE_2
    have lE := heap_lt bE_2
    go_upto_region 4 with fail
    have hk3 : Kp (fun k => k = bo) w2 (w2.setCell ⟨bo, 0, none⟩ (.int .i64 2)) := (Kp.setCell (Kp.refl (fun k => k = bo) _) (.inl rfl) _)
    have bE_3 : (w2.setCell ⟨bo, 0, none⟩ (.int .i64 2)).heap[bo]? = some (.cells #[.int .i64 2, .int .i64 0, .int .i64 0, .int .i64 0, .int .i64 0] 42) := (setCell_heap bE_2 _)
    generalize (w2.setCell ⟨bo, 0, none⟩ (.int .i64 2)) = w3 at *
    have z3 := hk3.size
    have bP_3 := hk3.bo bP_2
    have bR_3 := hk3.bo bR_2
    have K3 : One br w w3 := one_on K2 hk3 (by omega)
    have r3 := r2.kp hk3
    clear cP0 cP1 cP2 lP cE0 cE1 cE2 cE3 cE4 fE lE
    clear bP_2 bR_2 bE_2 K2 r2 hk3
    obtain ⟨cE0, cE1, cE2, cE3, cE4⟩ := cells5 bE_3
    have lE := heap_lt bE_3
    go_wp2_with fail
    clear cE0 cE1 cE2 cE3 cE4 lE
    refine (CodeV.l6Fields (w := w3) (op := 2) (by omega) (by omega)).mono ?_
    rintro e w4 ⟨ks, rfl, hks, hn4⟩
    have z4 := hn4.size
    have bP_4 := hn4.bk bP_3
    have bR_4 := hn4.bk bR_3
    have bE_4 := hn4.bk bE_3
    have K4 := K3.nw hn4
    have r4 := r3.nw hn4
    clear bP_3 bR_3 bE_3 K3 r3 hn4
    obtain ⟨kn, hkn⟩ : ∃ kn, ks.size = kn := ⟨_, rfl⟩
    have kl : kn ≤ 4 := by rw [← hkn]; rw [CodeV.ba_len hks]; exact letters4 (op := 2) (by omega) (by omega)
    clear hks
    have hn5 : New w4 (w4.alloc (.cells #[.int .i64 0, .int .i64 0, .int .i64 0, .int .i64 0] 3)) := (Kp.refl _ _).alloc _
    have y5 : w4.heap.size < (w4.alloc (.cells #[.int .i64 0, .int .i64 0, .int .i64 0, .int .i64 0] 3)).heap.size := lt_alloc _ _
    have oF_5 := four w4 3
    go_wp2_with fail
    generalize hbf : w4.heap.size = bf at oF_5 y5 ⊢
    have hbf2 : bo < bf := by have := heap_lt bE_4; omega
    generalize (w4.alloc (.cells #[.int .i64 0, .int .i64 0, .int .i64 0, .int .i64 0] 3)) = w5 at *
    have z5 := hn5.size
    have bP_5 := hn5.bk bP_4
    have bR_5 := hn5.bk bR_4
    have bE_5 := hn5.bk bE_4
    have K5 := K4.nw hn5
    have r5 := r4.nw hn5
    clear bP_4 bR_4 bE_4 K4 r4 hn5
    have hL : LR w br p bo bf #[.slice a1 nv d1, .slice a2 0 d2, .slice a3 nb d3] (2) 0 w5 := ⟨[0, 0, 0, 0], p + 1, rfl, K5, r5, by omega, bP_5, bR_5, bE_5, oF_5⟩
    have hLh := Lib.hid hL
    clear hL K5 r5 bP_5 bR_5 bE_5 oF_5
    go_loopw [12] (fun i wr => ∃ j : Nat, j ≤ kn ∧ i = .int .i64 j ∧ LR w br p bo bf #[.slice a1 nv d1, .slice a2 0 d2, .slice a3 nb d3] (2) j wr) (fun i _ => kn - (intOf i).toNat)
    case atStart => exact ⟨0, Nat.zero_le _, rfl, hLh.out⟩
    case round =>
      obtain ⟨j, hj, rfl, ps, q, hl, K0, r0, hq, bP_0, bR_0, bE_0, hF⟩ := hrel
      clear hLh
      have oF_0 := Lib.hid hF
      have hlF := Lib.hid hl
      have zw := K0.size
      have zE := heap_lt bE_0
      have hbr2 := r0.lt
      clear hl hF
      by_cases hlt : j < kn
      · have hk : j < ks.size := by omega
        go_upto_region 11 with fail
        generalize ((ks[j].toNat : Nat) : Int) = y at *
        by_cases hy114 : y = 114
        · subst hy114
          obtain ⟨cP0, cP1, cP2⟩ := cells3 bP_0
          have lP := heap_lt bP_0
          go_wp2_with fail
          refine (pick wr br (q) _ r0 (by omega)).mono ?_
          rintro e w1 ⟨v, rfl, v0, v1, v2, hn1, r1⟩
          have z1 := hn1.size
          have bP_1 := hn1.bo bP_0
          have bR_1 := hn1.bo bR_0
          have bE_1 := hn1.bo bE_0
          have oF_1 := Lib.hid (oF_0.out.kb hn1 (fun b e => by omega))
          have K1 := K0.trans hn1
          clear cP0 cP1 cP2 lP
          clear bP_0 bR_0 bE_0 oF_0 K0 r0 hn1
          clear v1 v2
          obtain ⟨-, g, ge, gc, gf⟩ := own_cells oF_1.out (by rw [hlF.out]; decide)
          cases ge
          obtain ⟨u, gcj⟩ : ∃ u : Int, w1.cell? ⟨bf, j, none⟩ = some (.int .i64 u) := ⟨_, gc j (by have := hlF.out; omega)⟩
          have gfj := gf j
          have gsh := Lib.hid (OwnF.set1 (enc := encI) (xs := ps) (show OwnF 1 encI w1 bf 3 (.slice (some ⟨bf, 0, none⟩) ps.length 4) ps by rw [hlF.out]; exact oF_1.out) j (by have := hlF.out; omega) (v))
          have gl : (ps.set j (v)).length = 4 := by rw [List.length_set]; exact hlF.out
          clear gc gf
          have kz : Kp (fun b => b = bf) w1 (w1.setCell ⟨bf, j, none⟩ (.int .i64 (v))) := (Kp.refl (fun b => b = bf) _).setCell (.inl rfl) _
          have hlF2 := hlF.out
          have hL : LR w br p bo bf #[.slice a1 nv d1, .slice a2 0 d2, .slice a3 nb d3] (2) (j + 1) (w1.setCell ⟨bf, j, none⟩ (.int .i64 (v))) := ⟨ps.set j (v), q + 1, gl, one_on K1 kz (by omega), r1.keep kz (fun b e => by omega), by omega, (kz.block _ (heap_lt bP_1) (by omega)).trans bP_1, (kz.block _ (heap_lt bR_1) (by omega)).trans bR_1, (kz.block _ (heap_lt bE_1) (by omega)).trans bE_1, by have := gsh.out; rw [hlF2] at this; exact this⟩
          have hLh := Lib.hid hL
          clear hL kz K1 r1 bP_1 bR_1 bE_1 oF_1 gl gsh hlF hlF2
          go_wp2
          go_roundw
          case rel => exact ⟨j + 1, by omega, by go_num, hLh.out⟩
          case measure => simp [intOf]; omega
        have hz114 : (y == 114) = false := by simpa using hy114
        by_cases hy99 : y = 99
        · subst hy99
          obtain ⟨cP0, cP1, cP2⟩ := cells3 bP_0
          have lP := heap_lt bP_0
          go_wp2_with fail
          refine (DrawV.l3Value wr br (q) r0 (by omega)).mono ?_
          rintro e w1 ⟨v, rfl, ⟨v0, v1⟩, hn1, r1⟩
          have z1 := hn1.size
          have bP_1 := hn1.bo bP_0
          have bR_1 := hn1.bo bR_0
          have bE_1 := hn1.bo bE_0
          have oF_1 := Lib.hid (oF_0.out.kb hn1 (fun b e => by omega))
          have K1 := K0.trans hn1
          clear cP0 cP1 cP2 lP
          clear bP_0 bR_0 bE_0 oF_0 K0 r0 hn1
          obtain ⟨-, g, ge, gc, gf⟩ := own_cells oF_1.out (by rw [hlF.out]; decide)
          cases ge
          obtain ⟨u, gcj⟩ : ∃ u : Int, w1.cell? ⟨bf, j, none⟩ = some (.int .i64 u) := ⟨_, gc j (by have := hlF.out; omega)⟩
          have gfj := gf j
          have gsh := Lib.hid (OwnF.set1 (enc := encI) (xs := ps) (show OwnF 1 encI w1 bf 3 (.slice (some ⟨bf, 0, none⟩) ps.length 4) ps by rw [hlF.out]; exact oF_1.out) j (by have := hlF.out; omega) (v))
          have gl : (ps.set j (v)).length = 4 := by rw [List.length_set]; exact hlF.out
          clear gc gf
          have kz : Kp (fun b => b = bf) w1 (w1.setCell ⟨bf, j, none⟩ (.int .i64 (v))) := (Kp.refl (fun b => b = bf) _).setCell (.inl rfl) _
          have hlF2 := hlF.out
          have hL : LR w br p bo bf #[.slice a1 nv d1, .slice a2 0 d2, .slice a3 nb d3] (2) (j + 1) (w1.setCell ⟨bf, j, none⟩ (.int .i64 (v))) := ⟨ps.set j (v), q + 1, gl, one_on K1 kz (by omega), r1.keep kz (fun b e => by omega), by omega, (kz.block _ (heap_lt bP_1) (by omega)).trans bP_1, (kz.block _ (heap_lt bR_1) (by omega)).trans bR_1, (kz.block _ (heap_lt bE_1) (by omega)).trans bE_1, by have := gsh.out; rw [hlF2] at this; exact this⟩
          have hLh := Lib.hid hL
          clear hL kz K1 r1 bP_1 bR_1 bE_1 oF_1 gl gsh hlF hlF2
          go_wp2
          go_roundw
          case rel => exact ⟨j + 1, by omega, by go_num, hLh.out⟩
          case measure => simp [intOf]; omega
        have hz99 : (y == 99) = false := by simpa using hy99
        by_cases hy118 : y = 118
        · subst hy118
          obtain ⟨cP0, cP1, cP2⟩ := cells3 bP_0
          have lP := heap_lt bP_0
          go_wp2_with fail
          refine (pick wr br (q) _ r0 (by omega)).mono ?_
          rintro e w1 ⟨v, rfl, v0, v1, v2, hn1, r1⟩
          have z1 := hn1.size
          have bP_1 := hn1.bo bP_0
          have bR_1 := hn1.bo bR_0
          have bE_1 := hn1.bo bE_0
          have oF_1 := Lib.hid (oF_0.out.kb hn1 (fun b e => by omega))
          have K1 := K0.trans hn1
          clear cP0 cP1 cP2 lP
          clear bP_0 bR_0 bE_0 oF_0 K0 r0 hn1
          clear v1 v2
          obtain ⟨-, g, ge, gc, gf⟩ := own_cells oF_1.out (by rw [hlF.out]; decide)
          cases ge
          obtain ⟨u, gcj⟩ : ∃ u : Int, w1.cell? ⟨bf, j, none⟩ = some (.int .i64 u) := ⟨_, gc j (by have := hlF.out; omega)⟩
          have gfj := gf j
          have gsh := Lib.hid (OwnF.set1 (enc := encI) (xs := ps) (show OwnF 1 encI w1 bf 3 (.slice (some ⟨bf, 0, none⟩) ps.length 4) ps by rw [hlF.out]; exact oF_1.out) j (by have := hlF.out; omega) (v))
          have gl : (ps.set j (v)).length = 4 := by rw [List.length_set]; exact hlF.out
          clear gc gf
          have kz : Kp (fun b => b = bf) w1 (w1.setCell ⟨bf, j, none⟩ (.int .i64 (v))) := (Kp.refl (fun b => b = bf) _).setCell (.inl rfl) _
          have hlF2 := hlF.out
          have hL : LR w br p bo bf #[.slice a1 nv d1, .slice a2 0 d2, .slice a3 nb d3] (2) (j + 1) (w1.setCell ⟨bf, j, none⟩ (.int .i64 (v))) := ⟨ps.set j (v), q + 1, gl, one_on K1 kz (by omega), r1.keep kz (fun b e => by omega), by omega, (kz.block _ (heap_lt bP_1) (by omega)).trans bP_1, (kz.block _ (heap_lt bR_1) (by omega)).trans bR_1, (kz.block _ (heap_lt bE_1) (by omega)).trans bE_1, by have := gsh.out; rw [hlF2] at this; exact this⟩
          have hLh := Lib.hid hL
          clear hL kz K1 r1 bP_1 bR_1 bE_1 oF_1 gl gsh hlF hlF2
          go_wp2
          go_roundw
          case rel => exact ⟨j + 1, by omega, by go_num, hLh.out⟩
          case measure => simp [intOf]; omega
        have hz118 : (y == 118) = false := by simpa using hy118
        by_cases hy97 : y = 97
        · subst hy97
          obtain ⟨cP0, cP1, cP2⟩ := cells3 bP_0
          have lP := heap_lt bP_0
          go_wp2_with fail
          refine (pick wr br (q) _ r0 (by omega)).mono ?_
          rintro e w1 ⟨v, rfl, v0, v1, v2, hn1, r1⟩
          have z1 := hn1.size
          have bP_1 := hn1.bo bP_0
          have bR_1 := hn1.bo bR_0
          have bE_1 := hn1.bo bE_0
          have oF_1 := Lib.hid (oF_0.out.kb hn1 (fun b e => by omega))
          have K1 := K0.trans hn1
          clear cP0 cP1 cP2 lP
          clear bP_0 bR_0 bE_0 oF_0 K0 r0 hn1
          clear v1 v2
          obtain ⟨-, g, ge, gc, gf⟩ := own_cells oF_1.out (by rw [hlF.out]; decide)
          cases ge
          obtain ⟨u, gcj⟩ : ∃ u : Int, w1.cell? ⟨bf, j, none⟩ = some (.int .i64 u) := ⟨_, gc j (by have := hlF.out; omega)⟩
          have gfj := gf j
          have gsh := Lib.hid (OwnF.set1 (enc := encI) (xs := ps) (show OwnF 1 encI w1 bf 3 (.slice (some ⟨bf, 0, none⟩) ps.length 4) ps by rw [hlF.out]; exact oF_1.out) j (by have := hlF.out; omega) (v))
          have gl : (ps.set j (v)).length = 4 := by rw [List.length_set]; exact hlF.out
          clear gc gf
          have kz : Kp (fun b => b = bf) w1 (w1.setCell ⟨bf, j, none⟩ (.int .i64 (v))) := (Kp.refl (fun b => b = bf) _).setCell (.inl rfl) _
          have hlF2 := hlF.out
          have hL : LR w br p bo bf #[.slice a1 nv d1, .slice a2 0 d2, .slice a3 nb d3] (2) (j + 1) (w1.setCell ⟨bf, j, none⟩ (.int .i64 (v))) := ⟨ps.set j (v), q + 1, gl, one_on K1 kz (by omega), r1.keep kz (fun b e => by omega), by omega, (kz.block _ (heap_lt bP_1) (by omega)).trans bP_1, (kz.block _ (heap_lt bR_1) (by omega)).trans bR_1, (kz.block _ (heap_lt bE_1) (by omega)).trans bE_1, by have := gsh.out; rw [hlF2] at this; exact this⟩
          have hLh := Lib.hid hL
          clear hL kz K1 r1 bP_1 bR_1 bE_1 oF_1 gl gsh hlF hlF2
          go_wp2
          go_roundw
          case rel => exact ⟨j + 1, by omega, by go_num, hLh.out⟩
          case measure => simp [intOf]; omega
        have hz97 : (y == 97) = false := by simpa using hy97
        by_cases hy111 : y = 111
        · subst hy111
          obtain ⟨cP0, cP1, cP2⟩ := cells3 bP_0
          have lP := heap_lt bP_0
          go_wp2_with fail
          refine (pick wr br (q) _ r0 (by omega)).mono ?_
          rintro e w1 ⟨v, rfl, v0, v1, v2, hn1, r1⟩
          have z1 := hn1.size
          have bP_1 := hn1.bo bP_0
          have bR_1 := hn1.bo bR_0
          have bE_1 := hn1.bo bE_0
          have oF_1 := Lib.hid (oF_0.out.kb hn1 (fun b e => by omega))
          have K1 := K0.trans hn1
          clear cP0 cP1 cP2 lP
          clear bP_0 bR_0 bE_0 oF_0 K0 r0 hn1
          have v7 : v < 7 := v1 (by omega)
          have hwr : IntKind.i64.wrap (4 + v) = 4 + v := IntWalk.i64_in _ (by omega)
          clear v1 v2
          obtain ⟨-, g, ge, gc, gf⟩ := own_cells oF_1.out (by rw [hlF.out]; decide)
          cases ge
          obtain ⟨u, gcj⟩ : ∃ u : Int, w1.cell? ⟨bf, j, none⟩ = some (.int .i64 u) := ⟨_, gc j (by have := hlF.out; omega)⟩
          have gfj := gf j
          have gsh := Lib.hid (OwnF.set1 (enc := encI) (xs := ps) (show OwnF 1 encI w1 bf 3 (.slice (some ⟨bf, 0, none⟩) ps.length 4) ps by rw [hlF.out]; exact oF_1.out) j (by have := hlF.out; omega) (4 + v))
          have gl : (ps.set j (4 + v)).length = 4 := by rw [List.length_set]; exact hlF.out
          clear gc gf
          have kz : Kp (fun b => b = bf) w1 (w1.setCell ⟨bf, j, none⟩ (.int .i64 (4 + v))) := (Kp.refl (fun b => b = bf) _).setCell (.inl rfl) _
          have hlF2 := hlF.out
          have hL : LR w br p bo bf #[.slice a1 nv d1, .slice a2 0 d2, .slice a3 nb d3] (2) (j + 1) (w1.setCell ⟨bf, j, none⟩ (.int .i64 (4 + v))) := ⟨ps.set j (4 + v), q + 1, gl, one_on K1 kz (by omega), r1.keep kz (fun b e => by omega), by omega, (kz.block _ (heap_lt bP_1) (by omega)).trans bP_1, (kz.block _ (heap_lt bR_1) (by omega)).trans bR_1, (kz.block _ (heap_lt bE_1) (by omega)).trans bE_1, by have := gsh.out; rw [hlF2] at this; exact this⟩
          have hLh := Lib.hid hL
          clear hL kz K1 r1 bP_1 bR_1 bE_1 oF_1 gl gsh hlF hlF2
          go_wp2
          go_roundw
          case rel => exact ⟨j + 1, by omega, by go_num, hLh.out⟩
          case measure => simp [intOf]; omega
        have hz111 : (y == 111) = false := by simpa using hy111
        have hw1 : IntKind.i64.wrap ((at_ : Int) + 1) = (at_ : Int) + 1 := IntWalk.i64_in _ (by omega)
        have hw2 : IntKind.i64.wrap ((n : Int) - at_) = (n : Int) - at_ := IntWalk.i64_in _ (by omega)
        have hw3 : IntKind.i64.wrap ((n : Int) - at_ - 1) = (n : Int) - at_ - 1 := IntWalk.i64_in _ (by omega)
        obtain ⟨cP0, cP1, cP2⟩ := cells3 bP_0
        have lP := heap_lt bP_0
        go_wp2_with fail
        refine (pick wr br (q) _ r0 (by omega)).mono ?_
        rintro e w1 ⟨v, rfl, v0, v1, v2, hn1, r1⟩
        have z1 := hn1.size
        have bP_1 := hn1.bo bP_0
        have bR_1 := hn1.bo bR_0
        have bE_1 := hn1.bo bE_0
        have oF_1 := Lib.hid (oF_0.out.kb hn1 (fun b e => by omega))
        have K1 := K0.trans hn1
        clear cP0 cP1 cP2 lP
        clear bP_0 bR_0 bE_0 oF_0 K0 r0 hn1
        have v8 : v ≤ 1000 := by
          by_cases hz : 1 ≤ (n : Int) - at_ - 1
          · have := v1 hz; omega
          · have := v2 (by omega); omega
        have hwr : IntKind.i64.wrap ((at_ : Int) + 1 + v) = (at_ : Int) + 1 + v := IntWalk.i64_in _ (by omega)
        clear v1 v2
        obtain ⟨-, g, ge, gc, gf⟩ := own_cells oF_1.out (by rw [hlF.out]; decide)
        cases ge
        obtain ⟨u, gcj⟩ : ∃ u : Int, w1.cell? ⟨bf, j, none⟩ = some (.int .i64 u) := ⟨_, gc j (by have := hlF.out; omega)⟩
        have gfj := gf j
        have gsh := Lib.hid (OwnF.set1 (enc := encI) (xs := ps) (show OwnF 1 encI w1 bf 3 (.slice (some ⟨bf, 0, none⟩) ps.length 4) ps by rw [hlF.out]; exact oF_1.out) j (by have := hlF.out; omega) ((at_ : Int) + 1 + v))
        have gl : (ps.set j ((at_ : Int) + 1 + v)).length = 4 := by rw [List.length_set]; exact hlF.out
        clear gc gf
        have kz : Kp (fun b => b = bf) w1 (w1.setCell ⟨bf, j, none⟩ (.int .i64 ((at_ : Int) + 1 + v))) := (Kp.refl (fun b => b = bf) _).setCell (.inl rfl) _
        have hlF2 := hlF.out
        have hL : LR w br p bo bf #[.slice a1 nv d1, .slice a2 0 d2, .slice a3 nb d3] (2) (j + 1) (w1.setCell ⟨bf, j, none⟩ (.int .i64 ((at_ : Int) + 1 + v))) := ⟨ps.set j ((at_ : Int) + 1 + v), q + 1, gl, one_on K1 kz (by omega), r1.keep kz (fun b e => by omega), by omega, (kz.block _ (heap_lt bP_1) (by omega)).trans bP_1, (kz.block _ (heap_lt bR_1) (by omega)).trans bR_1, (kz.block _ (heap_lt bE_1) (by omega)).trans bE_1, by have := gsh.out; rw [hlF2] at this; exact this⟩
        have hLh := Lib.hid hL
        clear hL kz K1 r1 bP_1 bR_1 bE_1 oF_1 gl gsh hlF hlF2
        go_wp2
        go_roundw
        case rel => exact ⟨j + 1, by omega, by go_num, hLh.out⟩
        case measure => simp [intOf]; omega
      · have hje : j = kn := by omega
        subst hje
        clear hlt hj
        have hl4 := hlF.out
        match ps, hl4 with
        | [p0, p1, p2, p3], _ =>
          obtain ⟨-, g, ge, gc, gf⟩ := own_cells oF_0.out (by simp)
          cases ge
          have g0 : wr.cell? ⟨bf, 0, none⟩ = some (.int .i64 p0) := gc 0 (by simp)
          have g1 : wr.cell? ⟨bf, 1, none⟩ = some (.int .i64 p1) := gc 1 (by simp)
          have g2 : wr.cell? ⟨bf, 2, none⟩ = some (.int .i64 p2) := gc 2 (by simp)
          have g3 : wr.cell? ⟨bf, 3, none⟩ = some (.int .i64 p3) := gc 3 (by simp)
          clear gc gf oF_0 hlF
          have cE0 := cell_of_heap bE_0 0
          have lE := heap_lt bE_0
          obtain ⟨cR0, cR1, cR2, cR3, cR4⟩ := cells5 bR_0
          have fR := frozen_of_heap bR_0
          have lR := heap_lt bR_0
          go_wp2_with fail
          refine wp_region_tail (k := 15) (S := fun w' => w'.cell? ⟨bo, 0, none⟩ = some (.int .i64 2) ∧ w'.cell? ⟨bf, 0, none⟩ = some (.int .i64 p0) ∧ w'.cell? ⟨bf, 1, none⟩ = some (.int .i64 p1) ∧ w'.cell? ⟨bf, 2, none⟩ = some (.int .i64 p2) ∧ w'.cell? ⟨bf, 3, none⟩ = some (.int .i64 p3)) (by kernel_rfl) ?_ (fun hHeld => ?_)
          · exact ⟨cE0, g0, g1, g2, g3⟩
          clear cE0 lE cR0 cR1 cR2 cR3 cR4 fR lR
          have hn1 : New wr wr.drew := (Kp.refl _ _).drew
          generalize wr.drew = w1 at *
          have z1 := hn1.size
          have bR_1 := hn1.bk bR_0
          have bE_1 := hn1.bk bE_0
          have K1 := K0.nw hn1
          have r1 := r0.nw hn1
          clear bR_0 bE_0 K0 r0 hn1
          refine AnyK.tw 0 rfl ?_
          try simp only [AP]
          refine AnyK.tk 1 rfl ?_
          try simp only [AP]
          refine AnyK.tw 2 rfl ?_
          try simp only [AP]
          refine AnyK.tw 3 rfl ?_
          try simp only [AP]
          refine AnyK.tk 4 rfl ?_
          try simp only [AP]
          refine AnyK.tw 5 rfl ?_
          try simp only [AP]
          refine AnyK.tw 6 rfl ?_
          try simp only [AP]
          refine AnyK.tk 7 rfl ?_
          try simp only [AP]
          refine AnyK.tw 8 rfl ?_
          try simp only [AP]
          refine AnyK.tw 9 rfl ?_
          try simp only [AP]
          refine AnyK.tk 10 rfl ?_
          try simp only [AP]
          refine AnyK.tw 11 rfl ?_
          try simp only [AP]
          refine AnyK.tw 12 rfl ?_
          try simp only [AP]
          refine AnyK.tk 13 rfl ?_
          try simp only [AP]
          refine AnyK.tw 14 rfl ?_
          try simp only [AP]
          refine AnyK.last (by kernel_rfl) ?_
          simp only [List.drop_succ_cons, List.drop_zero]
          clear hHeld
          obtain ⟨cR0, cR1, cR2, cR3, cR4⟩ := cells5 bR_1
          have fR := frozen_of_heap bR_1
          have lR := heap_lt bR_1
          go_wp2
          have hkz := setMany_kp (w.heap.size + 1) [.int .i64 2, .int .i64 p0, .int .i64 p1, .int .i64 p2, .int .i64 p3] w1 0
          have zs := setMany_size (w.heap.size + 1) [.int .i64 2, .int .i64 p0, .int .i64 p1, .int .i64 p2, .int .i64 p3] w1 0
          have hR := setMany_row [.int .i64 2, .int .i64 p0, .int .i64 p1, .int .i64 p2, .int .i64 p3] bR_1 rfl
          exact bodyPost_ret (results_cell_row rfl _ _ _ _ _ _ _ rfl hR Try.underlying42 rfl (by kernel_rfl)) rfl ⟨⟨2, p0, p1, p2, p3⟩, q, rfl, one_on K1 hkz (by omega), r1.keep hkz (fun b e => by omega), by omega⟩
  have hx4b : (x == 4) = false := by simpa using hx4
  by_cases hx5 : x = 5
  · subst hx5
    obtain ⟨cP0, cP1, cP2⟩ := cells3 bP_2
    have lP := heap_lt bP_2
    obtain ⟨cE0, cE1, cE2, cE3, cE4⟩ := cells5 bE_2
    have fE := frozen_of_heap bE_2
    have lE := heap_lt bE_2
    go_upto_region 4 with fail
    have hk3 : Kp (fun k => k = bo) w2 (w2.setCell ⟨bo, 0, none⟩ (.int .i64 2)) := (Kp.setCell (Kp.refl (fun k => k = bo) _) (.inl rfl) _)
    have bE_3 : (w2.setCell ⟨bo, 0, none⟩ (.int .i64 2)).heap[bo]? = some (.cells #[.int .i64 2, .int .i64 0, .int .i64 0, .int .i64 0, .int .i64 0] 42) := (setCell_heap bE_2 _)
    generalize (w2.setCell ⟨bo, 0, none⟩ (.int .i64 2)) = w3 at *
    have z3 := hk3.size
    have bP_3 := hk3.bo bP_2
    have bR_3 := hk3.bo bR_2
    have K3 : One br w w3 := one_on K2 hk3 (by omega)
    have r3 := r2.kp hk3
    clear cP0 cP1 cP2 lP cE0 cE1 cE2 cE3 cE4 fE lE
    clear bP_2 bR_2 bE_2 K2 r2 hk3
    obtain ⟨cE0, cE1, cE2, cE3, cE4⟩ := cells5 bE_3
    have lE := heap_lt bE_3
    go_wp2_with fail
    clear cE0 cE1 cE2 cE3 cE4 lE
    refine (CodeV.l6Fields (w := w3) (op := 2) (by omega) (by omega)).mono ?_
    rintro e w4 ⟨ks, rfl, hks, hn4⟩
    have z4 := hn4.size
    have bP_4 := hn4.bk bP_3
    have bR_4 := hn4.bk bR_3
    have bE_4 := hn4.bk bE_3
    have K4 := K3.nw hn4
    have r4 := r3.nw hn4
    clear bP_3 bR_3 bE_3 K3 r3 hn4
    obtain ⟨kn, hkn⟩ : ∃ kn, ks.size = kn := ⟨_, rfl⟩
    have kl : kn ≤ 4 := by rw [← hkn]; rw [CodeV.ba_len hks]; exact letters4 (op := 2) (by omega) (by omega)
    clear hks
    have hn5 : New w4 (w4.alloc (.cells #[.int .i64 0, .int .i64 0, .int .i64 0, .int .i64 0] 3)) := (Kp.refl _ _).alloc _
    have y5 : w4.heap.size < (w4.alloc (.cells #[.int .i64 0, .int .i64 0, .int .i64 0, .int .i64 0] 3)).heap.size := lt_alloc _ _
    have oF_5 := four w4 3
    go_wp2_with fail
    generalize hbf : w4.heap.size = bf at oF_5 y5 ⊢
    have hbf2 : bo < bf := by have := heap_lt bE_4; omega
    generalize (w4.alloc (.cells #[.int .i64 0, .int .i64 0, .int .i64 0, .int .i64 0] 3)) = w5 at *
    have z5 := hn5.size
    have bP_5 := hn5.bk bP_4
    have bR_5 := hn5.bk bR_4
    have bE_5 := hn5.bk bE_4
    have K5 := K4.nw hn5
    have r5 := r4.nw hn5
    clear bP_4 bR_4 bE_4 K4 r4 hn5
    have hL : LR w br p bo bf #[.slice a1 nv d1, .slice a2 0 d2, .slice a3 nb d3] (2) 0 w5 := ⟨[0, 0, 0, 0], p + 1, rfl, K5, r5, by omega, bP_5, bR_5, bE_5, oF_5⟩
    have hLh := Lib.hid hL
    clear hL K5 r5 bP_5 bR_5 bE_5 oF_5
    go_loopw [12] (fun i wr => ∃ j : Nat, j ≤ kn ∧ i = .int .i64 j ∧ LR w br p bo bf #[.slice a1 nv d1, .slice a2 0 d2, .slice a3 nb d3] (2) j wr) (fun i _ => kn - (intOf i).toNat)
    case atStart => exact ⟨0, Nat.zero_le _, rfl, hLh.out⟩
    case round =>
      obtain ⟨j, hj, rfl, ps, q, hl, K0, r0, hq, bP_0, bR_0, bE_0, hF⟩ := hrel
      clear hLh
      have oF_0 := Lib.hid hF
      have hlF := Lib.hid hl
      have zw := K0.size
      have zE := heap_lt bE_0
      have hbr2 := r0.lt
      clear hl hF
      by_cases hlt : j < kn
      · have hk : j < ks.size := by omega
        go_upto_region 11 with fail
        generalize ((ks[j].toNat : Nat) : Int) = y at *
        by_cases hy114 : y = 114
        · subst hy114
          obtain ⟨cP0, cP1, cP2⟩ := cells3 bP_0
          have lP := heap_lt bP_0
          go_wp2_with fail
          refine (pick wr br (q) _ r0 (by omega)).mono ?_
          rintro e w1 ⟨v, rfl, v0, v1, v2, hn1, r1⟩
          have z1 := hn1.size
          have bP_1 := hn1.bo bP_0
          have bR_1 := hn1.bo bR_0
          have bE_1 := hn1.bo bE_0
          have oF_1 := Lib.hid (oF_0.out.kb hn1 (fun b e => by omega))
          have K1 := K0.trans hn1
          clear cP0 cP1 cP2 lP
          clear bP_0 bR_0 bE_0 oF_0 K0 r0 hn1
          clear v1 v2
          obtain ⟨-, g, ge, gc, gf⟩ := own_cells oF_1.out (by rw [hlF.out]; decide)
          cases ge
          obtain ⟨u, gcj⟩ : ∃ u : Int, w1.cell? ⟨bf, j, none⟩ = some (.int .i64 u) := ⟨_, gc j (by have := hlF.out; omega)⟩
          have gfj := gf j
          have gsh := Lib.hid (OwnF.set1 (enc := encI) (xs := ps) (show OwnF 1 encI w1 bf 3 (.slice (some ⟨bf, 0, none⟩) ps.length 4) ps by rw [hlF.out]; exact oF_1.out) j (by have := hlF.out; omega) (v))
          have gl : (ps.set j (v)).length = 4 := by rw [List.length_set]; exact hlF.out
          clear gc gf
          have kz : Kp (fun b => b = bf) w1 (w1.setCell ⟨bf, j, none⟩ (.int .i64 (v))) := (Kp.refl (fun b => b = bf) _).setCell (.inl rfl) _
          have hlF2 := hlF.out
          have hL : LR w br p bo bf #[.slice a1 nv d1, .slice a2 0 d2, .slice a3 nb d3] (2) (j + 1) (w1.setCell ⟨bf, j, none⟩ (.int .i64 (v))) := ⟨ps.set j (v), q + 1, gl, one_on K1 kz (by omega), r1.keep kz (fun b e => by omega), by omega, (kz.block _ (heap_lt bP_1) (by omega)).trans bP_1, (kz.block _ (heap_lt bR_1) (by omega)).trans bR_1, (kz.block _ (heap_lt bE_1) (by omega)).trans bE_1, by have := gsh.out; rw [hlF2] at this; exact this⟩
          have hLh := Lib.hid hL
          clear hL kz K1 r1 bP_1 bR_1 bE_1 oF_1 gl gsh hlF hlF2
          go_wp2
          go_roundw
          case rel => exact ⟨j + 1, by omega, by go_num, hLh.out⟩
          case measure => simp [intOf]; omega
        have hz114 : (y == 114) = false := by simpa using hy114
        by_cases hy99 : y = 99
        · subst hy99
          obtain ⟨cP0, cP1, cP2⟩ := cells3 bP_0
          have lP := heap_lt bP_0
          go_wp2_with fail
          refine (DrawV.l3Value wr br (q) r0 (by omega)).mono ?_
          rintro e w1 ⟨v, rfl, ⟨v0, v1⟩, hn1, r1⟩
          have z1 := hn1.size
          have bP_1 := hn1.bo bP_0
          have bR_1 := hn1.bo bR_0
          have bE_1 := hn1.bo bE_0
          have oF_1 := Lib.hid (oF_0.out.kb hn1 (fun b e => by omega))
          have K1 := K0.trans hn1
          clear cP0 cP1 cP2 lP
          clear bP_0 bR_0 bE_0 oF_0 K0 r0 hn1
          obtain ⟨-, g, ge, gc, gf⟩ := own_cells oF_1.out (by rw [hlF.out]; decide)
          cases ge
          obtain ⟨u, gcj⟩ : ∃ u : Int, w1.cell? ⟨bf, j, none⟩ = some (.int .i64 u) := ⟨_, gc j (by have := hlF.out; omega)⟩
          have gfj := gf j
          have gsh := Lib.hid (OwnF.set1 (enc := encI) (xs := ps) (show OwnF 1 encI w1 bf 3 (.slice (some ⟨bf, 0, none⟩) ps.length 4) ps by rw [hlF.out]; exact oF_1.out) j (by have := hlF.out; omega) (v))
          have gl : (ps.set j (v)).length = 4 := by rw [List.length_set]; exact hlF.out
          clear gc gf
          have kz : Kp (fun b => b = bf) w1 (w1.setCell ⟨bf, j, none⟩ (.int .i64 (v))) := (Kp.refl (fun b => b = bf) _).setCell (.inl rfl) _
          have hlF2 := hlF.out
          have hL : LR w br p bo bf #[.slice a1 nv d1, .slice a2 0 d2, .slice a3 nb d3] (2) (j + 1) (w1.setCell ⟨bf, j, none⟩ (.int .i64 (v))) := ⟨ps.set j (v), q + 1, gl, one_on K1 kz (by omega), r1.keep kz (fun b e => by omega), by omega, (kz.block _ (heap_lt bP_1) (by omega)).trans bP_1, (kz.block _ (heap_lt bR_1) (by omega)).trans bR_1, (kz.block _ (heap_lt bE_1) (by omega)).trans bE_1, by have := gsh.out; rw [hlF2] at this; exact this⟩
          have hLh := Lib.hid hL
          clear hL kz K1 r1 bP_1 bR_1 bE_1 oF_1 gl gsh hlF hlF2
          go_wp2
          go_roundw
          case rel => exact ⟨j + 1, by omega, by go_num, hLh.out⟩
          case measure => simp [intOf]; omega
        have hz99 : (y == 99) = false := by simpa using hy99
        by_cases hy118 : y = 118
        · subst hy118
          obtain ⟨cP0, cP1, cP2⟩ := cells3 bP_0
          have lP := heap_lt bP_0
          go_wp2_with fail
          refine (pick wr br (q) _ r0 (by omega)).mono ?_
          rintro e w1 ⟨v, rfl, v0, v1, v2, hn1, r1⟩
          have z1 := hn1.size
          have bP_1 := hn1.bo bP_0
          have bR_1 := hn1.bo bR_0
          have bE_1 := hn1.bo bE_0
          have oF_1 := Lib.hid (oF_0.out.kb hn1 (fun b e => by omega))
          have K1 := K0.trans hn1
          clear cP0 cP1 cP2 lP
          clear bP_0 bR_0 bE_0 oF_0 K0 r0 hn1
          clear v1 v2
          obtain ⟨-, g, ge, gc, gf⟩ := own_cells oF_1.out (by rw [hlF.out]; decide)
          cases ge
          obtain ⟨u, gcj⟩ : ∃ u : Int, w1.cell? ⟨bf, j, none⟩ = some (.int .i64 u) := ⟨_, gc j (by have := hlF.out; omega)⟩
          have gfj := gf j
          have gsh := Lib.hid (OwnF.set1 (enc := encI) (xs := ps) (show OwnF 1 encI w1 bf 3 (.slice (some ⟨bf, 0, none⟩) ps.length 4) ps by rw [hlF.out]; exact oF_1.out) j (by have := hlF.out; omega) (v))
          have gl : (ps.set j (v)).length = 4 := by rw [List.length_set]; exact hlF.out
          clear gc gf
          have kz : Kp (fun b => b = bf) w1 (w1.setCell ⟨bf, j, none⟩ (.int .i64 (v))) := (Kp.refl (fun b => b = bf) _).setCell (.inl rfl) _
          have hlF2 := hlF.out
          have hL : LR w br p bo bf #[.slice a1 nv d1, .slice a2 0 d2, .slice a3 nb d3] (2) (j + 1) (w1.setCell ⟨bf, j, none⟩ (.int .i64 (v))) := ⟨ps.set j (v), q + 1, gl, one_on K1 kz (by omega), r1.keep kz (fun b e => by omega), by omega, (kz.block _ (heap_lt bP_1) (by omega)).trans bP_1, (kz.block _ (heap_lt bR_1) (by omega)).trans bR_1, (kz.block _ (heap_lt bE_1) (by omega)).trans bE_1, by have := gsh.out; rw [hlF2] at this; exact this⟩
          have hLh := Lib.hid hL
          clear hL kz K1 r1 bP_1 bR_1 bE_1 oF_1 gl gsh hlF hlF2
          go_wp2
          go_roundw
          case rel => exact ⟨j + 1, by omega, by go_num, hLh.out⟩
          case measure => simp [intOf]; omega
        have hz118 : (y == 118) = false := by simpa using hy118
        by_cases hy97 : y = 97
        · subst hy97
          obtain ⟨cP0, cP1, cP2⟩ := cells3 bP_0
          have lP := heap_lt bP_0
          go_wp2_with fail
          refine (pick wr br (q) _ r0 (by omega)).mono ?_
          rintro e w1 ⟨v, rfl, v0, v1, v2, hn1, r1⟩
          have z1 := hn1.size
          have bP_1 := hn1.bo bP_0
          have bR_1 := hn1.bo bR_0
          have bE_1 := hn1.bo bE_0
          have oF_1 := Lib.hid (oF_0.out.kb hn1 (fun b e => by omega))
          have K1 := K0.trans hn1
          clear cP0 cP1 cP2 lP
          clear bP_0 bR_0 bE_0 oF_0 K0 r0 hn1
          clear v1 v2
          obtain ⟨-, g, ge, gc, gf⟩ := own_cells oF_1.out (by rw [hlF.out]; decide)
          cases ge
          obtain ⟨u, gcj⟩ : ∃ u : Int, w1.cell? ⟨bf, j, none⟩ = some (.int .i64 u) := ⟨_, gc j (by have := hlF.out; omega)⟩
          have gfj := gf j
          have gsh := Lib.hid (OwnF.set1 (enc := encI) (xs := ps) (show OwnF 1 encI w1 bf 3 (.slice (some ⟨bf, 0, none⟩) ps.length 4) ps by rw [hlF.out]; exact oF_1.out) j (by have := hlF.out; omega) (v))
          have gl : (ps.set j (v)).length = 4 := by rw [List.length_set]; exact hlF.out
          clear gc gf
          have kz : Kp (fun b => b = bf) w1 (w1.setCell ⟨bf, j, none⟩ (.int .i64 (v))) := (Kp.refl (fun b => b = bf) _).setCell (.inl rfl) _
          have hlF2 := hlF.out
          have hL : LR w br p bo bf #[.slice a1 nv d1, .slice a2 0 d2, .slice a3 nb d3] (2) (j + 1) (w1.setCell ⟨bf, j, none⟩ (.int .i64 (v))) := ⟨ps.set j (v), q + 1, gl, one_on K1 kz (by omega), r1.keep kz (fun b e => by omega), by omega, (kz.block _ (heap_lt bP_1) (by omega)).trans bP_1, (kz.block _ (heap_lt bR_1) (by omega)).trans bR_1, (kz.block _ (heap_lt bE_1) (by omega)).trans bE_1, by have := gsh.out; rw [hlF2] at this; exact this⟩
          have hLh := Lib.hid hL
          clear hL kz K1 r1 bP_1 bR_1 bE_1 oF_1 gl gsh hlF hlF2
          go_wp2
          go_roundw
          case rel => exact ⟨j + 1, by omega, by go_num, hLh.out⟩
          case measure => simp [intOf]; omega
        have hz97 : (y == 97) = false := by simpa using hy97
        by_cases hy111 : y = 111
        · subst hy111
          obtain ⟨cP0, cP1, cP2⟩ := cells3 bP_0
          have lP := heap_lt bP_0
          go_wp2_with fail
          refine (pick wr br (q) _ r0 (by omega)).mono ?_
          rintro e w1 ⟨v, rfl, v0, v1, v2, hn1, r1⟩
          have z1 := hn1.size
          have bP_1 := hn1.bo bP_0
          have bR_1 := hn1.bo bR_0
          have bE_1 := hn1.bo bE_0
          have oF_1 := Lib.hid (oF_0.out.kb hn1 (fun b e => by omega))
          have K1 := K0.trans hn1
          clear cP0 cP1 cP2 lP
          clear bP_0 bR_0 bE_0 oF_0 K0 r0 hn1
          have v7 : v < 7 := v1 (by omega)
          have hwr : IntKind.i64.wrap (4 + v) = 4 + v := IntWalk.i64_in _ (by omega)
          clear v1 v2
          obtain ⟨-, g, ge, gc, gf⟩ := own_cells oF_1.out (by rw [hlF.out]; decide)
          cases ge
          obtain ⟨u, gcj⟩ : ∃ u : Int, w1.cell? ⟨bf, j, none⟩ = some (.int .i64 u) := ⟨_, gc j (by have := hlF.out; omega)⟩
          have gfj := gf j
          have gsh := Lib.hid (OwnF.set1 (enc := encI) (xs := ps) (show OwnF 1 encI w1 bf 3 (.slice (some ⟨bf, 0, none⟩) ps.length 4) ps by rw [hlF.out]; exact oF_1.out) j (by have := hlF.out; omega) (4 + v))
          have gl : (ps.set j (4 + v)).length = 4 := by rw [List.length_set]; exact hlF.out
          clear gc gf
          have kz : Kp (fun b => b = bf) w1 (w1.setCell ⟨bf, j, none⟩ (.int .i64 (4 + v))) := (Kp.refl (fun b => b = bf) _).setCell (.inl rfl) _
          have hlF2 := hlF.out
          have hL : LR w br p bo bf #[.slice a1 nv d1, .slice a2 0 d2, .slice a3 nb d3] (2) (j + 1) (w1.setCell ⟨bf, j, none⟩ (.int .i64 (4 + v))) := ⟨ps.set j (4 + v), q + 1, gl, one_on K1 kz (by omega), r1.keep kz (fun b e => by omega), by omega, (kz.block _ (heap_lt bP_1) (by omega)).trans bP_1, (kz.block _ (heap_lt bR_1) (by omega)).trans bR_1, (kz.block _ (heap_lt bE_1) (by omega)).trans bE_1, by have := gsh.out; rw [hlF2] at this; exact this⟩
          have hLh := Lib.hid hL
          clear hL kz K1 r1 bP_1 bR_1 bE_1 oF_1 gl gsh hlF hlF2
          go_wp2
          go_roundw
          case rel => exact ⟨j + 1, by omega, by go_num, hLh.out⟩
          case measure => simp [intOf]; omega
        have hz111 : (y == 111) = false := by simpa using hy111
        have hw1 : IntKind.i64.wrap ((at_ : Int) + 1) = (at_ : Int) + 1 := IntWalk.i64_in _ (by omega)
        have hw2 : IntKind.i64.wrap ((n : Int) - at_) = (n : Int) - at_ := IntWalk.i64_in _ (by omega)
        have hw3 : IntKind.i64.wrap ((n : Int) - at_ - 1) = (n : Int) - at_ - 1 := IntWalk.i64_in _ (by omega)
        obtain ⟨cP0, cP1, cP2⟩ := cells3 bP_0
        have lP := heap_lt bP_0
        go_wp2_with fail
        refine (pick wr br (q) _ r0 (by omega)).mono ?_
        rintro e w1 ⟨v, rfl, v0, v1, v2, hn1, r1⟩
        have z1 := hn1.size
        have bP_1 := hn1.bo bP_0
        have bR_1 := hn1.bo bR_0
        have bE_1 := hn1.bo bE_0
        have oF_1 := Lib.hid (oF_0.out.kb hn1 (fun b e => by omega))
        have K1 := K0.trans hn1
        clear cP0 cP1 cP2 lP
        clear bP_0 bR_0 bE_0 oF_0 K0 r0 hn1
        have v8 : v ≤ 1000 := by
          by_cases hz : 1 ≤ (n : Int) - at_ - 1
          · have := v1 hz; omega
          · have := v2 (by omega); omega
        have hwr : IntKind.i64.wrap ((at_ : Int) + 1 + v) = (at_ : Int) + 1 + v := IntWalk.i64_in _ (by omega)
        clear v1 v2
        obtain ⟨-, g, ge, gc, gf⟩ := own_cells oF_1.out (by rw [hlF.out]; decide)
        cases ge
        obtain ⟨u, gcj⟩ : ∃ u : Int, w1.cell? ⟨bf, j, none⟩ = some (.int .i64 u) := ⟨_, gc j (by have := hlF.out; omega)⟩
        have gfj := gf j
        have gsh := Lib.hid (OwnF.set1 (enc := encI) (xs := ps) (show OwnF 1 encI w1 bf 3 (.slice (some ⟨bf, 0, none⟩) ps.length 4) ps by rw [hlF.out]; exact oF_1.out) j (by have := hlF.out; omega) ((at_ : Int) + 1 + v))
        have gl : (ps.set j ((at_ : Int) + 1 + v)).length = 4 := by rw [List.length_set]; exact hlF.out
        clear gc gf
        have kz : Kp (fun b => b = bf) w1 (w1.setCell ⟨bf, j, none⟩ (.int .i64 ((at_ : Int) + 1 + v))) := (Kp.refl (fun b => b = bf) _).setCell (.inl rfl) _
        have hlF2 := hlF.out
        have hL : LR w br p bo bf #[.slice a1 nv d1, .slice a2 0 d2, .slice a3 nb d3] (2) (j + 1) (w1.setCell ⟨bf, j, none⟩ (.int .i64 ((at_ : Int) + 1 + v))) := ⟨ps.set j ((at_ : Int) + 1 + v), q + 1, gl, one_on K1 kz (by omega), r1.keep kz (fun b e => by omega), by omega, (kz.block _ (heap_lt bP_1) (by omega)).trans bP_1, (kz.block _ (heap_lt bR_1) (by omega)).trans bR_1, (kz.block _ (heap_lt bE_1) (by omega)).trans bE_1, by have := gsh.out; rw [hlF2] at this; exact this⟩
        have hLh := Lib.hid hL
        clear hL kz K1 r1 bP_1 bR_1 bE_1 oF_1 gl gsh hlF hlF2
        go_wp2
        go_roundw
        case rel => exact ⟨j + 1, by omega, by go_num, hLh.out⟩
        case measure => simp [intOf]; omega
      · have hje : j = kn := by omega
        subst hje
        clear hlt hj
        have hl4 := hlF.out
        match ps, hl4 with
        | [p0, p1, p2, p3], _ =>
          obtain ⟨-, g, ge, gc, gf⟩ := own_cells oF_0.out (by simp)
          cases ge
          have g0 : wr.cell? ⟨bf, 0, none⟩ = some (.int .i64 p0) := gc 0 (by simp)
          have g1 : wr.cell? ⟨bf, 1, none⟩ = some (.int .i64 p1) := gc 1 (by simp)
          have g2 : wr.cell? ⟨bf, 2, none⟩ = some (.int .i64 p2) := gc 2 (by simp)
          have g3 : wr.cell? ⟨bf, 3, none⟩ = some (.int .i64 p3) := gc 3 (by simp)
          clear gc gf oF_0 hlF
          have cE0 := cell_of_heap bE_0 0
          have lE := heap_lt bE_0
          obtain ⟨cR0, cR1, cR2, cR3, cR4⟩ := cells5 bR_0
          have fR := frozen_of_heap bR_0
          have lR := heap_lt bR_0
          go_wp2_with fail
          refine wp_region_tail (k := 15) (S := fun w' => w'.cell? ⟨bo, 0, none⟩ = some (.int .i64 2) ∧ w'.cell? ⟨bf, 0, none⟩ = some (.int .i64 p0) ∧ w'.cell? ⟨bf, 1, none⟩ = some (.int .i64 p1) ∧ w'.cell? ⟨bf, 2, none⟩ = some (.int .i64 p2) ∧ w'.cell? ⟨bf, 3, none⟩ = some (.int .i64 p3)) (by kernel_rfl) ?_ (fun hHeld => ?_)
          · exact ⟨cE0, g0, g1, g2, g3⟩
          clear cE0 lE cR0 cR1 cR2 cR3 cR4 fR lR
          have hn1 : New wr wr.drew := (Kp.refl _ _).drew
          generalize wr.drew = w1 at *
          have z1 := hn1.size
          have bR_1 := hn1.bk bR_0
          have bE_1 := hn1.bk bE_0
          have K1 := K0.nw hn1
          have r1 := r0.nw hn1
          clear bR_0 bE_0 K0 r0 hn1
          refine AnyK.tw 0 rfl ?_
          try simp only [AP]
          refine AnyK.tk 1 rfl ?_
          try simp only [AP]
          refine AnyK.tw 2 rfl ?_
          try simp only [AP]
          refine AnyK.tw 3 rfl ?_
          try simp only [AP]
          refine AnyK.tk 4 rfl ?_
          try simp only [AP]
          refine AnyK.tw 5 rfl ?_
          try simp only [AP]
          refine AnyK.tw 6 rfl ?_
          try simp only [AP]
          refine AnyK.tk 7 rfl ?_
          try simp only [AP]
          refine AnyK.tw 8 rfl ?_
          try simp only [AP]
          refine AnyK.tw 9 rfl ?_
          try simp only [AP]
          refine AnyK.tk 10 rfl ?_
          try simp only [AP]
          refine AnyK.tw 11 rfl ?_
          try simp only [AP]
          refine AnyK.tw 12 rfl ?_
          try simp only [AP]
          refine AnyK.tk 13 rfl ?_
          try simp only [AP]
          refine AnyK.tw 14 rfl ?_
          try simp only [AP]
          refine AnyK.last (by kernel_rfl) ?_
          simp only [List.drop_succ_cons, List.drop_zero]
          clear hHeld
          obtain ⟨cR0, cR1, cR2, cR3, cR4⟩ := cells5 bR_1
          have fR := frozen_of_heap bR_1
          have lR := heap_lt bR_1
          go_wp2
          have hkz := setMany_kp (w.heap.size + 1) [.int .i64 2, .int .i64 p0, .int .i64 p1, .int .i64 p2, .int .i64 p3] w1 0
          have zs := setMany_size (w.heap.size + 1) [.int .i64 2, .int .i64 p0, .int .i64 p1, .int .i64 p2, .int .i64 p3] w1 0
          have hR := setMany_row [.int .i64 2, .int .i64 p0, .int .i64 p1, .int .i64 p2, .int .i64 p3] bR_1 rfl
          exact bodyPost_ret (results_cell_row rfl _ _ _ _ _ _ _ rfl hR Try.underlying42 rfl (by kernel_rfl)) rfl ⟨⟨2, p0, p1, p2, p3⟩, q, rfl, one_on K1 hkz (by omega), r1.keep hkz (fun b e => by omega), by omega⟩
  have hx5b : (x == 5) = false := by simpa using hx5
  skip
  obtain ⟨cP0, cP1, cP2⟩ := cells3 bP_2
  have lP := heap_lt bP_2
  obtain ⟨cE0, cE1, cE2, cE3, cE4⟩ := cells5 bE_2
  have fE := frozen_of_heap bE_2
  have lE := heap_lt bE_2
  go_wp2_with fail
  clear cP0 cP1 cP2 lP cE0 cE1 cE2 cE3 cE4 fE lE
  refine (CodeV.l6Fields (w := w2) (op := x) (by omega) (by omega)).mono ?_
  rintro e w3 ⟨ks, rfl, hks, hn3⟩
  have z3 := hn3.size
  have bP_3 := hn3.bk bP_2
  have bR_3 := hn3.bk bR_2
  have bE_3 := hn3.bk bE_2
  have K3 := K2.nw hn3
  have r3 := r2.nw hn3
  clear bP_2 bR_2 bE_2 K2 r2 hn3
  obtain ⟨kn, hkn⟩ : ∃ kn, ks.size = kn := ⟨_, rfl⟩
  have kl : kn ≤ 4 := by rw [← hkn]; rw [CodeV.ba_len hks]; exact letters4 (op := x) (by omega) (by omega)
  clear hks
  have hn4 : New w3 (w3.alloc (.cells #[.int .i64 0, .int .i64 0, .int .i64 0, .int .i64 0] 3)) := (Kp.refl _ _).alloc _
  have y4 : w3.heap.size < (w3.alloc (.cells #[.int .i64 0, .int .i64 0, .int .i64 0, .int .i64 0] 3)).heap.size := lt_alloc _ _
  have oF_4 := four w3 3
  go_wp2_with fail
  generalize hbf : w3.heap.size = bf at oF_4 y4 ⊢
  have hbf2 : bo < bf := by have := heap_lt bE_3; omega
  generalize (w3.alloc (.cells #[.int .i64 0, .int .i64 0, .int .i64 0, .int .i64 0] 3)) = w4 at *
  have z4 := hn4.size
  have bP_4 := hn4.bk bP_3
  have bR_4 := hn4.bk bR_3
  have bE_4 := hn4.bk bE_3
  have K4 := K3.nw hn4
  have r4 := r3.nw hn4
  clear bP_3 bR_3 bE_3 K3 r3 hn4
  have hL : LR w br p bo bf #[.slice a1 nv d1, .slice a2 0 d2, .slice a3 nb d3] (x) 0 w4 := ⟨[0, 0, 0, 0], p + 1, rfl, K4, r4, by omega, bP_4, bR_4, bE_4, oF_4⟩
  have hLh := Lib.hid hL
  clear hL K4 r4 bP_4 bR_4 bE_4 oF_4
  go_loopw [12] (fun i wr => ∃ j : Nat, j ≤ kn ∧ i = .int .i64 j ∧ LR w br p bo bf #[.slice a1 nv d1, .slice a2 0 d2, .slice a3 nb d3] (x) j wr) (fun i _ => kn - (intOf i).toNat)
  case atStart => exact ⟨0, Nat.zero_le _, rfl, hLh.out⟩
  case round =>
    obtain ⟨j, hj, rfl, ps, q, hl, K0, r0, hq, bP_0, bR_0, bE_0, hF⟩ := hrel
    clear hLh
    have oF_0 := Lib.hid hF
    have hlF := Lib.hid hl
    have zw := K0.size
    have zE := heap_lt bE_0
    have hbr2 := r0.lt
    clear hl hF
    by_cases hlt : j < kn
    · have hk : j < ks.size := by omega
      go_upto_region 11 with fail
      generalize ((ks[j].toNat : Nat) : Int) = y at *
      by_cases hy114 : y = 114
      · subst hy114
        obtain ⟨cP0, cP1, cP2⟩ := cells3 bP_0
        have lP := heap_lt bP_0
        go_wp2_with fail
        refine (pick wr br (q) _ r0 (by omega)).mono ?_
        rintro e w1 ⟨v, rfl, v0, v1, v2, hn1, r1⟩
        have z1 := hn1.size
        have bP_1 := hn1.bo bP_0
        have bR_1 := hn1.bo bR_0
        have bE_1 := hn1.bo bE_0
        have oF_1 := Lib.hid (oF_0.out.kb hn1 (fun b e => by omega))
        have K1 := K0.trans hn1
        clear cP0 cP1 cP2 lP
        clear bP_0 bR_0 bE_0 oF_0 K0 r0 hn1
        clear v1 v2
        obtain ⟨-, g, ge, gc, gf⟩ := own_cells oF_1.out (by rw [hlF.out]; decide)
        cases ge
        obtain ⟨u, gcj⟩ : ∃ u : Int, w1.cell? ⟨bf, j, none⟩ = some (.int .i64 u) := ⟨_, gc j (by have := hlF.out; omega)⟩
        have gfj := gf j
        have gsh := Lib.hid (OwnF.set1 (enc := encI) (xs := ps) (show OwnF 1 encI w1 bf 3 (.slice (some ⟨bf, 0, none⟩) ps.length 4) ps by rw [hlF.out]; exact oF_1.out) j (by have := hlF.out; omega) (v))
        have gl : (ps.set j (v)).length = 4 := by rw [List.length_set]; exact hlF.out
        clear gc gf
        have kz : Kp (fun b => b = bf) w1 (w1.setCell ⟨bf, j, none⟩ (.int .i64 (v))) := (Kp.refl (fun b => b = bf) _).setCell (.inl rfl) _
        have hlF2 := hlF.out
        have hL : LR w br p bo bf #[.slice a1 nv d1, .slice a2 0 d2, .slice a3 nb d3] (x) (j + 1) (w1.setCell ⟨bf, j, none⟩ (.int .i64 (v))) := ⟨ps.set j (v), q + 1, gl, one_on K1 kz (by omega), r1.keep kz (fun b e => by omega), by omega, (kz.block _ (heap_lt bP_1) (by omega)).trans bP_1, (kz.block _ (heap_lt bR_1) (by omega)).trans bR_1, (kz.block _ (heap_lt bE_1) (by omega)).trans bE_1, by have := gsh.out; rw [hlF2] at this; exact this⟩
        have hLh := Lib.hid hL
        clear hL kz K1 r1 bP_1 bR_1 bE_1 oF_1 gl gsh hlF hlF2
        go_wp2
        go_roundw
        case rel => exact ⟨j + 1, by omega, by go_num, hLh.out⟩
        case measure => simp [intOf]; omega
      have hz114 : (y == 114) = false := by simpa using hy114
      by_cases hy99 : y = 99
      · subst hy99
        obtain ⟨cP0, cP1, cP2⟩ := cells3 bP_0
        have lP := heap_lt bP_0
        go_wp2_with fail
        refine (DrawV.l3Value wr br (q) r0 (by omega)).mono ?_
        rintro e w1 ⟨v, rfl, ⟨v0, v1⟩, hn1, r1⟩
        have z1 := hn1.size
        have bP_1 := hn1.bo bP_0
        have bR_1 := hn1.bo bR_0
        have bE_1 := hn1.bo bE_0
        have oF_1 := Lib.hid (oF_0.out.kb hn1 (fun b e => by omega))
        have K1 := K0.trans hn1
        clear cP0 cP1 cP2 lP
        clear bP_0 bR_0 bE_0 oF_0 K0 r0 hn1
        obtain ⟨-, g, ge, gc, gf⟩ := own_cells oF_1.out (by rw [hlF.out]; decide)
        cases ge
        obtain ⟨u, gcj⟩ : ∃ u : Int, w1.cell? ⟨bf, j, none⟩ = some (.int .i64 u) := ⟨_, gc j (by have := hlF.out; omega)⟩
        have gfj := gf j
        have gsh := Lib.hid (OwnF.set1 (enc := encI) (xs := ps) (show OwnF 1 encI w1 bf 3 (.slice (some ⟨bf, 0, none⟩) ps.length 4) ps by rw [hlF.out]; exact oF_1.out) j (by have := hlF.out; omega) (v))
        have gl : (ps.set j (v)).length = 4 := by rw [List.length_set]; exact hlF.out
        clear gc gf
        have kz : Kp (fun b => b = bf) w1 (w1.setCell ⟨bf, j, none⟩ (.int .i64 (v))) := (Kp.refl (fun b => b = bf) _).setCell (.inl rfl) _
        have hlF2 := hlF.out
        have hL : LR w br p bo bf #[.slice a1 nv d1, .slice a2 0 d2, .slice a3 nb d3] (x) (j + 1) (w1.setCell ⟨bf, j, none⟩ (.int .i64 (v))) := ⟨ps.set j (v), q + 1, gl, one_on K1 kz (by omega), r1.keep kz (fun b e => by omega), by omega, (kz.block _ (heap_lt bP_1) (by omega)).trans bP_1, (kz.block _ (heap_lt bR_1) (by omega)).trans bR_1, (kz.block _ (heap_lt bE_1) (by omega)).trans bE_1, by have := gsh.out; rw [hlF2] at this; exact this⟩
        have hLh := Lib.hid hL
        clear hL kz K1 r1 bP_1 bR_1 bE_1 oF_1 gl gsh hlF hlF2
        go_wp2
        go_roundw
        case rel => exact ⟨j + 1, by omega, by go_num, hLh.out⟩
        case measure => simp [intOf]; omega
      have hz99 : (y == 99) = false := by simpa using hy99
      by_cases hy118 : y = 118
      · subst hy118
        obtain ⟨cP0, cP1, cP2⟩ := cells3 bP_0
        have lP := heap_lt bP_0
        go_wp2_with fail
        refine (pick wr br (q) _ r0 (by omega)).mono ?_
        rintro e w1 ⟨v, rfl, v0, v1, v2, hn1, r1⟩
        have z1 := hn1.size
        have bP_1 := hn1.bo bP_0
        have bR_1 := hn1.bo bR_0
        have bE_1 := hn1.bo bE_0
        have oF_1 := Lib.hid (oF_0.out.kb hn1 (fun b e => by omega))
        have K1 := K0.trans hn1
        clear cP0 cP1 cP2 lP
        clear bP_0 bR_0 bE_0 oF_0 K0 r0 hn1
        clear v1 v2
        obtain ⟨-, g, ge, gc, gf⟩ := own_cells oF_1.out (by rw [hlF.out]; decide)
        cases ge
        obtain ⟨u, gcj⟩ : ∃ u : Int, w1.cell? ⟨bf, j, none⟩ = some (.int .i64 u) := ⟨_, gc j (by have := hlF.out; omega)⟩
        have gfj := gf j
        have gsh := Lib.hid (OwnF.set1 (enc := encI) (xs := ps) (show OwnF 1 encI w1 bf 3 (.slice (some ⟨bf, 0, none⟩) ps.length 4) ps by rw [hlF.out]; exact oF_1.out) j (by have := hlF.out; omega) (v))
        have gl : (ps.set j (v)).length = 4 := by rw [List.length_set]; exact hlF.out
        clear gc gf
        have kz : Kp (fun b => b = bf) w1 (w1.setCell ⟨bf, j, none⟩ (.int .i64 (v))) := (Kp.refl (fun b => b = bf) _).setCell (.inl rfl) _
        have hlF2 := hlF.out
        have hL : LR w br p bo bf #[.slice a1 nv d1, .slice a2 0 d2, .slice a3 nb d3] (x) (j + 1) (w1.setCell ⟨bf, j, none⟩ (.int .i64 (v))) := ⟨ps.set j (v), q + 1, gl, one_on K1 kz (by omega), r1.keep kz (fun b e => by omega), by omega, (kz.block _ (heap_lt bP_1) (by omega)).trans bP_1, (kz.block _ (heap_lt bR_1) (by omega)).trans bR_1, (kz.block _ (heap_lt bE_1) (by omega)).trans bE_1, by have := gsh.out; rw [hlF2] at this; exact this⟩
        have hLh := Lib.hid hL
        clear hL kz K1 r1 bP_1 bR_1 bE_1 oF_1 gl gsh hlF hlF2
        go_wp2
        go_roundw
        case rel => exact ⟨j + 1, by omega, by go_num, hLh.out⟩
        case measure => simp [intOf]; omega
      have hz118 : (y == 118) = false := by simpa using hy118
      by_cases hy97 : y = 97
      · subst hy97
        obtain ⟨cP0, cP1, cP2⟩ := cells3 bP_0
        have lP := heap_lt bP_0
        go_wp2_with fail
        refine (pick wr br (q) _ r0 (by omega)).mono ?_
        rintro e w1 ⟨v, rfl, v0, v1, v2, hn1, r1⟩
        have z1 := hn1.size
        have bP_1 := hn1.bo bP_0
        have bR_1 := hn1.bo bR_0
        have bE_1 := hn1.bo bE_0
        have oF_1 := Lib.hid (oF_0.out.kb hn1 (fun b e => by omega))
        have K1 := K0.trans hn1
        clear cP0 cP1 cP2 lP
        clear bP_0 bR_0 bE_0 oF_0 K0 r0 hn1
        clear v1 v2
        obtain ⟨-, g, ge, gc, gf⟩ := own_cells oF_1.out (by rw [hlF.out]; decide)
        cases ge
        obtain ⟨u, gcj⟩ : ∃ u : Int, w1.cell? ⟨bf, j, none⟩ = some (.int .i64 u) := ⟨_, gc j (by have := hlF.out; omega)⟩
        have gfj := gf j
        have gsh := Lib.hid (OwnF.set1 (enc := encI) (xs := ps) (show OwnF 1 encI w1 bf 3 (.slice (some ⟨bf, 0, none⟩) ps.length 4) ps by rw [hlF.out]; exact oF_1.out) j (by have := hlF.out; omega) (v))
        have gl : (ps.set j (v)).length = 4 := by rw [List.length_set]; exact hlF.out
        clear gc gf
        have kz : Kp (fun b => b = bf) w1 (w1.setCell ⟨bf, j, none⟩ (.int .i64 (v))) := (Kp.refl (fun b => b = bf) _).setCell (.inl rfl) _
        have hlF2 := hlF.out
        have hL : LR w br p bo bf #[.slice a1 nv d1, .slice a2 0 d2, .slice a3 nb d3] (x) (j + 1) (w1.setCell ⟨bf, j, none⟩ (.int .i64 (v))) := ⟨ps.set j (v), q + 1, gl, one_on K1 kz (by omega), r1.keep kz (fun b e => by omega), by omega, (kz.block _ (heap_lt bP_1) (by omega)).trans bP_1, (kz.block _ (heap_lt bR_1) (by omega)).trans bR_1, (kz.block _ (heap_lt bE_1) (by omega)).trans bE_1, by have := gsh.out; rw [hlF2] at this; exact this⟩
        have hLh := Lib.hid hL
        clear hL kz K1 r1 bP_1 bR_1 bE_1 oF_1 gl gsh hlF hlF2
        go_wp2
        go_roundw
        case rel => exact ⟨j + 1, by omega, by go_num, hLh.out⟩
        case measure => simp [intOf]; omega
      have hz97 : (y == 97) = false := by simpa using hy97
      by_cases hy111 : y = 111
      · subst hy111
        obtain ⟨cP0, cP1, cP2⟩ := cells3 bP_0
        have lP := heap_lt bP_0
        go_wp2_with fail
        refine (pick wr br (q) _ r0 (by omega)).mono ?_
        rintro e w1 ⟨v, rfl, v0, v1, v2, hn1, r1⟩
        have z1 := hn1.size
        have bP_1 := hn1.bo bP_0
        have bR_1 := hn1.bo bR_0
        have bE_1 := hn1.bo bE_0
        have oF_1 := Lib.hid (oF_0.out.kb hn1 (fun b e => by omega))
        have K1 := K0.trans hn1
        clear cP0 cP1 cP2 lP
        clear bP_0 bR_0 bE_0 oF_0 K0 r0 hn1
        have v7 : v < 7 := v1 (by omega)
        have hwr : IntKind.i64.wrap (4 + v) = 4 + v := IntWalk.i64_in _ (by omega)
        clear v1 v2
        obtain ⟨-, g, ge, gc, gf⟩ := own_cells oF_1.out (by rw [hlF.out]; decide)
        cases ge
        obtain ⟨u, gcj⟩ : ∃ u : Int, w1.cell? ⟨bf, j, none⟩ = some (.int .i64 u) := ⟨_, gc j (by have := hlF.out; omega)⟩
        have gfj := gf j
        have gsh := Lib.hid (OwnF.set1 (enc := encI) (xs := ps) (show OwnF 1 encI w1 bf 3 (.slice (some ⟨bf, 0, none⟩) ps.length 4) ps by rw [hlF.out]; exact oF_1.out) j (by have := hlF.out; omega) (4 + v))
        have gl : (ps.set j (4 + v)).length = 4 := by rw [List.length_set]; exact hlF.out
        clear gc gf
        have kz : Kp (fun b => b = bf) w1 (w1.setCell ⟨bf, j, none⟩ (.int .i64 (4 + v))) := (Kp.refl (fun b => b = bf) _).setCell (.inl rfl) _
        have hlF2 := hlF.out
        have hL : LR w br p bo bf #[.slice a1 nv d1, .slice a2 0 d2, .slice a3 nb d3] (x) (j + 1) (w1.setCell ⟨bf, j, none⟩ (.int .i64 (4 + v))) := ⟨ps.set j (4 + v), q + 1, gl, one_on K1 kz (by omega), r1.keep kz (fun b e => by omega), by omega, (kz.block _ (heap_lt bP_1) (by omega)).trans bP_1, (kz.block _ (heap_lt bR_1) (by omega)).trans bR_1, (kz.block _ (heap_lt bE_1) (by omega)).trans bE_1, by have := gsh.out; rw [hlF2] at this; exact this⟩
        have hLh := Lib.hid hL
        clear hL kz K1 r1 bP_1 bR_1 bE_1 oF_1 gl gsh hlF hlF2
        go_wp2
        go_roundw
        case rel => exact ⟨j + 1, by omega, by go_num, hLh.out⟩
        case measure => simp [intOf]; omega
      have hz111 : (y == 111) = false := by simpa using hy111
      have hw1 : IntKind.i64.wrap ((at_ : Int) + 1) = (at_ : Int) + 1 := IntWalk.i64_in _ (by omega)
      have hw2 : IntKind.i64.wrap ((n : Int) - at_) = (n : Int) - at_ := IntWalk.i64_in _ (by omega)
      have hw3 : IntKind.i64.wrap ((n : Int) - at_ - 1) = (n : Int) - at_ - 1 := IntWalk.i64_in _ (by omega)
      obtain ⟨cP0, cP1, cP2⟩ := cells3 bP_0
      have lP := heap_lt bP_0
      go_wp2_with fail
      refine (pick wr br (q) _ r0 (by omega)).mono ?_
      rintro e w1 ⟨v, rfl, v0, v1, v2, hn1, r1⟩
      have z1 := hn1.size
      have bP_1 := hn1.bo bP_0
      have bR_1 := hn1.bo bR_0
      have bE_1 := hn1.bo bE_0
      have oF_1 := Lib.hid (oF_0.out.kb hn1 (fun b e => by omega))
      have K1 := K0.trans hn1
      clear cP0 cP1 cP2 lP
      clear bP_0 bR_0 bE_0 oF_0 K0 r0 hn1
      have v8 : v ≤ 1000 := by
        by_cases hz : 1 ≤ (n : Int) - at_ - 1
        · have := v1 hz; omega
        · have := v2 (by omega); omega
      have hwr : IntKind.i64.wrap ((at_ : Int) + 1 + v) = (at_ : Int) + 1 + v := IntWalk.i64_in _ (by omega)
      clear v1 v2
      obtain ⟨-, g, ge, gc, gf⟩ := own_cells oF_1.out (by rw [hlF.out]; decide)
      cases ge
      obtain ⟨u, gcj⟩ : ∃ u : Int, w1.cell? ⟨bf, j, none⟩ = some (.int .i64 u) := ⟨_, gc j (by have := hlF.out; omega)⟩
      have gfj := gf j
      have gsh := Lib.hid (OwnF.set1 (enc := encI) (xs := ps) (show OwnF 1 encI w1 bf 3 (.slice (some ⟨bf, 0, none⟩) ps.length 4) ps by rw [hlF.out]; exact oF_1.out) j (by have := hlF.out; omega) ((at_ : Int) + 1 + v))
      have gl : (ps.set j ((at_ : Int) + 1 + v)).length = 4 := by rw [List.length_set]; exact hlF.out
      clear gc gf
      have kz : Kp (fun b => b = bf) w1 (w1.setCell ⟨bf, j, none⟩ (.int .i64 ((at_ : Int) + 1 + v))) := (Kp.refl (fun b => b = bf) _).setCell (.inl rfl) _
      have hlF2 := hlF.out
      have hL : LR w br p bo bf #[.slice a1 nv d1, .slice a2 0 d2, .slice a3 nb d3] (x) (j + 1) (w1.setCell ⟨bf, j, none⟩ (.int .i64 ((at_ : Int) + 1 + v))) := ⟨ps.set j ((at_ : Int) + 1 + v), q + 1, gl, one_on K1 kz (by omega), r1.keep kz (fun b e => by omega), by omega, (kz.block _ (heap_lt bP_1) (by omega)).trans bP_1, (kz.block _ (heap_lt bR_1) (by omega)).trans bR_1, (kz.block _ (heap_lt bE_1) (by omega)).trans bE_1, by have := gsh.out; rw [hlF2] at this; exact this⟩
      have hLh := Lib.hid hL
      clear hL kz K1 r1 bP_1 bR_1 bE_1 oF_1 gl gsh hlF hlF2
      go_wp2
      go_roundw
      case rel => exact ⟨j + 1, by omega, by go_num, hLh.out⟩
      case measure => simp [intOf]; omega
    · have hje : j = kn := by omega
      subst hje
      clear hlt hj
      have hl4 := hlF.out
      match ps, hl4 with
      | [p0, p1, p2, p3], _ =>
        obtain ⟨-, g, ge, gc, gf⟩ := own_cells oF_0.out (by simp)
        cases ge
        have g0 : wr.cell? ⟨bf, 0, none⟩ = some (.int .i64 p0) := gc 0 (by simp)
        have g1 : wr.cell? ⟨bf, 1, none⟩ = some (.int .i64 p1) := gc 1 (by simp)
        have g2 : wr.cell? ⟨bf, 2, none⟩ = some (.int .i64 p2) := gc 2 (by simp)
        have g3 : wr.cell? ⟨bf, 3, none⟩ = some (.int .i64 p3) := gc 3 (by simp)
        clear gc gf oF_0 hlF
        have cE0 := cell_of_heap bE_0 0
        have lE := heap_lt bE_0
        obtain ⟨cR0, cR1, cR2, cR3, cR4⟩ := cells5 bR_0
        have fR := frozen_of_heap bR_0
        have lR := heap_lt bR_0
        go_wp2_with fail
        refine wp_region_tail (k := 15) (S := fun w' => w'.cell? ⟨bo, 0, none⟩ = some (.int .i64 x) ∧ w'.cell? ⟨bf, 0, none⟩ = some (.int .i64 p0) ∧ w'.cell? ⟨bf, 1, none⟩ = some (.int .i64 p1) ∧ w'.cell? ⟨bf, 2, none⟩ = some (.int .i64 p2) ∧ w'.cell? ⟨bf, 3, none⟩ = some (.int .i64 p3)) (by kernel_rfl) ?_ (fun hHeld => ?_)
        · exact ⟨cE0, g0, g1, g2, g3⟩
        clear cE0 lE cR0 cR1 cR2 cR3 cR4 fR lR
        have hn1 : New wr wr.drew := (Kp.refl _ _).drew
        generalize wr.drew = w1 at *
        have z1 := hn1.size
        have bR_1 := hn1.bk bR_0
        have bE_1 := hn1.bk bE_0
        have K1 := K0.nw hn1
        have r1 := r0.nw hn1
        clear bR_0 bE_0 K0 r0 hn1
        refine AnyK.tw 0 rfl ?_
        try simp only [AP]
        refine AnyK.tk 1 rfl ?_
        try simp only [AP]
        refine AnyK.tw 2 rfl ?_
        try simp only [AP]
        refine AnyK.tw 3 rfl ?_
        try simp only [AP]
        refine AnyK.tk 4 rfl ?_
        try simp only [AP]
        refine AnyK.tw 5 rfl ?_
        try simp only [AP]
        refine AnyK.tw 6 rfl ?_
        try simp only [AP]
        refine AnyK.tk 7 rfl ?_
        try simp only [AP]
        refine AnyK.tw 8 rfl ?_
        try simp only [AP]
        refine AnyK.tw 9 rfl ?_
        try simp only [AP]
        refine AnyK.tk 10 rfl ?_
        try simp only [AP]
        refine AnyK.tw 11 rfl ?_
        try simp only [AP]
        refine AnyK.tw 12 rfl ?_
        try simp only [AP]
        refine AnyK.tk 13 rfl ?_
        try simp only [AP]
        refine AnyK.tw 14 rfl ?_
        try simp only [AP]
        refine AnyK.last (by kernel_rfl) ?_
        simp only [List.drop_succ_cons, List.drop_zero]
        clear hHeld
        obtain ⟨cR0, cR1, cR2, cR3, cR4⟩ := cells5 bR_1
        have fR := frozen_of_heap bR_1
        have lR := heap_lt bR_1
        go_wp2
        have hkz := setMany_kp (w.heap.size + 1) [.int .i64 x, .int .i64 p0, .int .i64 p1, .int .i64 p2, .int .i64 p3] w1 0
        have zs := setMany_size (w.heap.size + 1) [.int .i64 x, .int .i64 p0, .int .i64 p1, .int .i64 p2, .int .i64 p3] w1 0
        have hR := setMany_row [.int .i64 x, .int .i64 p0, .int .i64 p1, .int .i64 p2, .int .i64 p3] bR_1 rfl
        exact bodyPost_ret (results_cell_row rfl _ _ _ _ _ _ _ rfl hR Try.underlying42 rfl (by kernel_rfl)) rfl ⟨⟨x, p0, p1, p2, p3⟩, q, rfl, one_on K1 hkz (by omega), r1.keep hkz (fun b e => by omega), by omega⟩
end Go.Proofs.Ytbicpkmlionldaa.DrawC
