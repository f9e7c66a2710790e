/- Draws of expressions: an atom, an expression down to a depth, a small one. Conditions: fewer than 2^40 picks so far. -/
import Derived.Test.YtckikiaockkmbaaDoorXP1
import Derived.Test.YtckikiaockkmbaaDoorXP2
import Derived.Test.YtckikiaockkmbaaDoorXShapeV
import Derived.Deep.RegionHeld3
namespace Go.Proofs.YtckikiaockkmbaaDoor.DrawX
open Go.RowKit Kit Draw
set_option linter.unusedVariables false
/-- an expression drawn by at most c picks, of at most n nodes -/
def Got (w : World) (br p c n : Nat) (e : Ending) (w' : World) : Prop := ∃ (k v : Int) (a : Option Addr) (d : Nat) (ks : List Ex) (q : Nat), e = .returned (.agg #[.int .i64 k, .int .i64 v, .slice a ks.length d]) ∧ One br w w' ∧ Rd w' br q ∧ q ≤ p + c ∧ KidsR w' w.heap.size w'.heap.size (.slice a ks.length d) ks ∧ Ex.sizes ks + 1 ≤ n ∧ 0 ≤ k ∧ k ≤ 11 ∧ 0 ≤ v ∧ v ≤ 1099511627776
theorem Got.more {w w' : World} {br p c n c' n' : Nat} {e : Ending} (h : Got w br p c n e w') (hc : c ≤ c') (hn : n ≤ n') : Got w br p c' n' e w' := by
  obtain ⟨k, v, a, d, ks, q, h1, h2, h3, h4, h5, h6, h7⟩ := h
  exact ⟨k, v, a, d, ks, q, h1, h2, h3, by omega, h5, by omega, h7⟩
theorem lt_alloc (w : World) (o : Obj) : w.heap.size < (w.alloc o).heap.size := by simp
theorem one_on {w w1 w2 : World} {br b : Nat} (h : One br w w1) (k : Kp (fun k => k = b) w1 w2) (hb : w.heap.size ≤ b) : One br w w2 :=
  ⟨k.os.trans h.os, k.tape.trans h.tape, k.output.trans h.output, Nat.le_trans h.size k.size, fun i hi hn => (k.block i (Nat.lt_of_lt_of_le hi h.size) (fun e => by omega)).trans (h.block i hi hn)⟩
theorem one_new {w w1 w2 : World} {br : Nat} (h : One br w w1) {S : Nat → Prop} (k : Kp S w1 w2) (hb : ∀ i, S i → w.heap.size ≤ i) : One br w w2 :=
  ⟨k.os.trans h.os, k.tape.trans h.tape, k.output.trans h.output, Nat.le_trans h.size k.size, fun i hi hn => (k.block i (Nat.lt_of_lt_of_le hi h.size) (fun e => by have := hb i e; omega)).trans (h.block i hi hn)⟩
set_option maxHeartbeats 2000000 in
theorem l2DrawAtom (w : World) (br p : Nat) (a1 a2 a3 : Option Addr) (nv d1 na d2 nb d3 : Nat) (h : Rd w br p) (hp : p + 2 < 1099511627776) (hnv : nv ≤ 1000000) :
    Calls Tryd.prog 101 #[.pointer (some ⟨br, 0, none⟩), .agg #[.slice a1 nv d1, .slice a2 na d2, .slice a3 nb d3]] w (Got w br p 2 1) := by
  have hbl := h.lt
  go_enter Tryd.func101, Tryd.ntmps101
  go_wp2_with fail
  have N0 : New w ((w.alloc (.cells #[.slice a1 nv d1, .slice a2 na d2, .slice a3 nb d3] 41)).alloc (.cells #[.int .i64 0, .int .i64 0, .slice none 0 0] 45)) := (((Kp.refl _ _).alloc _).alloc _)
  have bP_0 : ((w.alloc (.cells #[.slice a1 nv d1, .slice a2 na d2, .slice a3 nb d3] 41)).alloc (.cells #[.int .i64 0, .int .i64 0, .slice none 0 0] 45)).heap[w.heap.size]? = some (.cells #[.slice a1 nv d1, .slice a2 na d2, .slice a3 nb d3] 41) := heap_old (alloc_heap _ _)
  have bR_0 : ((w.alloc (.cells #[.slice a1 nv d1, .slice a2 na d2, .slice a3 nb d3] 41)).alloc (.cells #[.int .i64 0, .int .i64 0, .slice none 0 0] 45)).heap[w.heap.size + 1]? = some (.cells #[.int .i64 0, .int .i64 0, .slice none 0 0] 45) := heap_at (by simp)
  have z0 : w.heap.size + 1 < ((w.alloc (.cells #[.slice a1 nv d1, .slice a2 na d2, .slice a3 nb d3] 41)).alloc (.cells #[.int .i64 0, .int .i64 0, .slice none 0 0] 45)).heap.size := by simp
  generalize ((w.alloc (.cells #[.slice a1 nv d1, .slice a2 na d2, .slice a3 nb d3] 41)).alloc (.cells #[.int .i64 0, .int .i64 0, .slice none 0 0] 45)) = w0 at *
  have h0 := h.keep N0 (fun _ f => f.elim)
  have K0 : One br w w0 := N0.mono (fun _ _ f => f.elim)
  clear h N0
  refine (pick w0 br p _ h0 (by omega)).mono ?_
  rintro e w1 ⟨v, rfl, v0, v1, _, k1, h1⟩
  have z1 := k1.size
  have bP_1 := k1.bo bP_0
  have bR_1 := k1.bo bR_0
  have K1 := K0.trans k1
  clear h0 K0 k1 v1 bP_0 bR_0
  by_cases hv : v = 0
  · subst hv
    obtain ⟨e0, e1, e2⟩ := cells3 bR_1
    have ef := frozen_of_heap bR_1
    have rl := heap_lt bR_1
    have hb1 := h1.lt
    go_wp2_with fail
    refine (num _ br (p + 1) _ 7 _ (fun x => 0 ≤ x ∧ x ≤ 255) (h1.keep (S := fun _ => False) ((Kp.refl _ _).alloc _) (fun _ f => f.elim)) (by omega) (by omega) (by omega) (by omega) ?_).mono ?_
    · intro i hi
      match i, hi with
      | 0, _ => exact ⟨_, by decide, World.cell?_alloc_new _ _ _ _⟩
      | 1, _ => exact ⟨_, by decide, World.cell?_alloc_new _ _ _ _⟩
      | 2, _ => exact ⟨_, by decide, World.cell?_alloc_new _ _ _ _⟩
      | 3, _ => exact ⟨_, by decide, World.cell?_alloc_new _ _ _ _⟩
      | 4, _ => exact ⟨_, by decide, World.cell?_alloc_new _ _ _ _⟩
      | 5, _ => exact ⟨_, by decide, World.cell?_alloc_new _ _ _ _⟩
      | 6, _ => exact ⟨_, by decide, World.cell?_alloc_new _ _ _ _⟩
    rintro e w2 ⟨x, rfl, ⟨x0, x1⟩, k2, h2⟩
    have kk : One br w1 w2 := ((Kp.refl (fun k => k = br) w1).alloc _).trans k2
    have bR_2 := (kk.block _ rl (by omega)).trans bR_1
    have K2 := K1.trans kk
    clear e0 e1 e2 ef rl k2 h1
    have z2 := kk.size
    obtain ⟨e0, e1, e2⟩ := cells3 bR_2
    have ef := frozen_of_heap bR_2
    have rl := heap_lt bR_2
    go_wp2
    have hkz := setMany_kp (w.heap.size + 1) [.int .i64 1, .int .i64 x, .slice none 0 0] w2 0
    have zs := setMany_size (w.heap.size + 1) [.int .i64 1, .int .i64 x, .slice none 0 0] w2 0
    have hR := setMany_row [.int .i64 1, .int .i64 x, .slice none 0 0] bR_2 rfl
    exact bodyPost_ret (results_cell_row rfl _ _ _ _ _ _ _ rfl hR Tryd.underlying45 rfl (by kernel_rfl)) rfl ⟨_, _, _, _, [], _, rfl, one_on K2 hkz (by omega), h2.keep hkz (fun k e => by omega), by omega, .nil _ _, by simp [Ex.sizes], by omega, by omega, by omega, by omega⟩
  · have hv2 : (v == 0) = false := by simpa using hv
    have p0 := cell_of_heap bP_1 0
    have pl := heap_lt bP_1
    go_wp2_with fail
    refine (pick w1 br (p + 1) _ h1 (by omega)).mono ?_
    rintro e w2 ⟨x, rfl, x0, x1, x2, k2, h2⟩
    have hx : x ≤ 1000000 := by
        by_cases hz : (1 : Int) ≤ nv
        · have := x1 hz; omega
        · have := x2 (by omega); omega
    have z2 := k2.size
    have bR_2 := k2.bo bR_1
    have K2 := K1.trans k2
    clear x1 x2 p0 pl h1 k2
    obtain ⟨e0, e1, e2⟩ := cells3 bR_2
    have ef := frozen_of_heap bR_2
    go_wp2
    have hkz := setMany_kp (w.heap.size + 1) [.int .i64 2, .int .i64 x, .slice none 0 0] w2 0
    have zs := setMany_size (w.heap.size + 1) [.int .i64 2, .int .i64 x, .slice none 0 0] w2 0
    have hR := setMany_row [.int .i64 2, .int .i64 x, .slice none 0 0] bR_2 rfl
    exact bodyPost_ret (results_cell_row rfl _ _ _ _ _ _ _ rfl hR Tryd.underlying45 rfl (by kernel_rfl)) rfl ⟨_, _, _, _, [], _, rfl, one_on K2 hkz (by omega), h2.keep hkz (fun k e => by omega), by omega, .nil _ _, by simp [Ex.sizes], by omega, by omega, by omega, by omega⟩
def nd : Nat → Nat | 0 => 1 | d + 1 => 3 * nd d + 1
def pc : Nat → Nat | 0 => 2 | d + 1 => 3 * pc d + 10
theorem nd_pos : ∀ d, 1 ≤ nd d | 0 => Nat.le_refl _ | d + 1 => by simp [nd]
theorem pc_pos : ∀ d, 2 ≤ pc d | 0 => Nat.le_refl _ | d + 1 => by simp [pc]
theorem infoX : (Tryd.prog.info? 45).map (fun i => (i.zero, i.size, i.bytes)) = some (some (.agg #[.int .i64 0, .int .i64 0, .slice none 0 0]), 3, 40) := by kernel_rfl
theorem newsX (w : World) (k v : Int) (s : Value) (T : TypeId) : ∀ t, t < 3 → (w.alloc (.cells #[.int .i64 k, .int .i64 v, s] T)).cell? ⟨w.heap.size, t, none⟩ = some (encX ⟨k, v, s⟩ t) := by
  intro t ht
  match t, ht with
  | 0, _ => exact World.cell?_alloc_new _ _ _ _
  | 1, _ => exact World.cell?_alloc_new _ _ _ _
  | 2, _ => exact World.cell?_alloc_new _ _ _ _
theorem kids1 {w : World} {lo hi b : Nat} {k v : Int} {s : Value} {ks : List Ex} {T : TypeId} (h : w.heap[b]? = some (.cells #[.int .i64 k, .int .i64 v, s] T (0, 0))) (hs : KidsR w lo hi s ks) (h1 : lo ≤ b) (h2 : b < hi) : KidsR w lo hi (.slice (some ⟨b, 0, none⟩) 1 1) [.node k v ks] :=
  .cons b 0 1 [.node k v ks] (fun _ => s) (by simp) h1 h2 (by simp) (by decide) (fun i hi => by obtain rfl : i = 0 := by simpa using hi
                                                                                                exact cell_of_heap h 0) (fun i hi => by obtain rfl : i = 0 := by simpa using hi
                                                                                                                                        exact cell_of_heap h 1) (fun i hi => by obtain rfl : i = 0 := by simpa using hi
                                                                                                                                                                                exact cell_of_heap h 2) (fun i hi => by obtain rfl : i = 0 := by simpa using hi
                                                                                                                                                                                                                        exact hs)
theorem sizes_snoc (l : List Ex) (e : Ex) : Ex.sizes (l ++ [e]) = Ex.sizes l + e.size := by
  induction l with
  | nil => simp [Ex.sizes]
  | cons a l ih => simp [Ex.sizes, ih]; omega
/-- where the loop over the operands stands: m of them drawn -/
def Lp (w : World) (br p c n bo : Nat) (vp : Array Value) (kind : Int) (m : Nat) (wr : World) : Prop := ∃ (l : List Ex) (a : Option Addr) (dd q : Nat), l.length = m ∧ One br w wr ∧ Rd wr br q ∧ q ≤ p + m * c ∧ wr.heap[w.heap.size]? = some (.cells vp 41 (0, 0)) ∧ wr.heap[w.heap.size + 1]? = some (.cells #[.int .i64 0, .int .i64 0, .slice none 0 0] 45 (0, 0)) ∧
  wr.heap[bo]? = some (.cells #[.int .i64 kind, .int .i64 0, .slice a m dd] 45 (0, 0)) ∧ ExsG wr (bo + 1) 45 (.slice a m dd) l ∧ Ex.sizes l ≤ m * n ∧ w.heap.size + 1 < bo
set_option maxHeartbeats 16000000 in
set_option maxRecDepth 100000 in
theorem l2Draw (a1 a2 a3 : Option Addr) (nv d1 na d2 nb d3 : Nat) (hnv : nv ≤ 1000000) (hna : na ≤ 1000000) : ∀ (d : Nat) (w : World) (br p : Nat) (z : Int), z = d → d ≤ 1000 → Rd w br p → p + pc d < 1099511627776 →
    Calls Tryd.prog 108 #[.pointer (some ⟨br, 0, none⟩), .agg #[.slice a1 nv d1, .slice a2 na d2, .slice a3 nb d3], .int .i64 z] w (Got w br p (pc d) (nd d)) := by
  intro d
  induction d with
  | zero =>
    intro w br p z hz hd h hp
    have hz2 : z < 2 := by omega
    have hp2 : p + 2 < 1099511627776 := hp
    clear hz hp
    have hbl := h.lt
    go_enter Tryd.func108, Tryd.ntmps108
    go_wp2_with fail
    have N0 : New w ((w.alloc (.cells #[.slice a1 nv d1, .slice a2 na d2, .slice a3 nb d3] 41)).alloc (.cells #[.int .i64 0, .int .i64 0, .slice none 0 0] 45)) := (((Kp.refl _ _).alloc _).alloc _)
    have bP_0 : ((w.alloc (.cells #[.slice a1 nv d1, .slice a2 na d2, .slice a3 nb d3] 41)).alloc (.cells #[.int .i64 0, .int .i64 0, .slice none 0 0] 45)).heap[w.heap.size]? = some (.cells #[.slice a1 nv d1, .slice a2 na d2, .slice a3 nb d3] 41) := heap_old (alloc_heap _ _)
    have bR_0 : ((w.alloc (.cells #[.slice a1 nv d1, .slice a2 na d2, .slice a3 nb d3] 41)).alloc (.cells #[.int .i64 0, .int .i64 0, .slice none 0 0] 45)).heap[w.heap.size + 1]? = some (.cells #[.int .i64 0, .int .i64 0, .slice none 0 0] 45) := heap_at (by simp)
    have z0 : w.heap.size + 1 < ((w.alloc (.cells #[.slice a1 nv d1, .slice a2 na d2, .slice a3 nb d3] 41)).alloc (.cells #[.int .i64 0, .int .i64 0, .slice none 0 0] 45)).heap.size := by simp
    generalize ((w.alloc (.cells #[.slice a1 nv d1, .slice a2 na d2, .slice a3 nb d3] 41)).alloc (.cells #[.int .i64 0, .int .i64 0, .slice none 0 0] 45)) = w0 at *
    have h0 := h.keep N0 (fun _ f => f.elim)
    have K0 : One br w w0 := N0.mono (fun _ _ f => f.elim)
    clear h N0
    obtain ⟨p0, p1, p2⟩ := cells3 bP_0
    have pl := heap_lt bP_0
    go_wp2_with fail
    refine (l2DrawAtom w0 br (p) a1 a2 a3 nv d1 na d2 nb d3 h0 (by omega) hnv).mono ?_
    rintro e wa ⟨k, v, a, dd, ks, q, rfl, k_, h_, hq, hks, hsz, b1, b2, b3, b4⟩
    have z_ := k_.size
    have bP_ := k_.bo bP_0
    have bR_ := k_.bo bR_0
    have K_ := K0.trans k_
    have hksh := Lib.hid hks
    clear hks k_ 
    clear p0 p1 p2 pl
    obtain ⟨e0, e1, e2⟩ := cells3 bR_
    have ef := frozen_of_heap bR_
    have rl := heap_lt bR_
    go_wp2
    have hkz := setMany_kp (w.heap.size + 1) [.int .i64 k, .int .i64 v, .slice a ks.length dd] wa 0
    have zs := setMany_size (w.heap.size + 1) [.int .i64 k, .int .i64 v, .slice a ks.length dd] wa 0
    have hR := setMany_row [.int .i64 k, .int .i64 v, .slice a ks.length dd] bR_ rfl
    have hKz := (hksh.out.kp hkz (by omega) (fun k e => .inl (by omega))).mono (lo' := w.heap.size) (hi' := (setMany wa (w.heap.size + 1) 0 [.int .i64 k, .int .i64 v, .slice a ks.length dd]).heap.size) (by omega) (by omega)
    exact bodyPost_ret (results_cell_row rfl _ _ _ _ _ _ _ rfl hR Tryd.underlying45 rfl (by kernel_rfl)) rfl ⟨_, _, _, _, _, q, rfl, one_on K_ hkz (by omega), h_.keep hkz (fun k e => by omega), by simp only [pc]; omega, hKz, by simp only [nd]; omega, by omega, by omega, by omega, by omega⟩
  | succ d ih =>
    intro w br p z hz hd h hp
    have hc1 : pc (d + 1) = 3 * pc d + 10 := rfl
    have hn1 : nd (d + 1) = 3 * nd d + 1 := rfl
    have hpp := pc_pos d
    have hnn := nd_pos d
    rw [hc1] at hp
    by_cases hd1 : d = 0
    · subst hd1
      have hz2 : z < 2 := by omega
      clear hz ih hc1 hn1
      have hbl := h.lt
      go_enter Tryd.func108, Tryd.ntmps108
      go_wp2_with fail
      have N0 : New w ((w.alloc (.cells #[.slice a1 nv d1, .slice a2 na d2, .slice a3 nb d3] 41)).alloc (.cells #[.int .i64 0, .int .i64 0, .slice none 0 0] 45)) := (((Kp.refl _ _).alloc _).alloc _)
      have bP_0 : ((w.alloc (.cells #[.slice a1 nv d1, .slice a2 na d2, .slice a3 nb d3] 41)).alloc (.cells #[.int .i64 0, .int .i64 0, .slice none 0 0] 45)).heap[w.heap.size]? = some (.cells #[.slice a1 nv d1, .slice a2 na d2, .slice a3 nb d3] 41) := heap_old (alloc_heap _ _)
      have bR_0 : ((w.alloc (.cells #[.slice a1 nv d1, .slice a2 na d2, .slice a3 nb d3] 41)).alloc (.cells #[.int .i64 0, .int .i64 0, .slice none 0 0] 45)).heap[w.heap.size + 1]? = some (.cells #[.int .i64 0, .int .i64 0, .slice none 0 0] 45) := heap_at (by simp)
      have z0 : w.heap.size + 1 < ((w.alloc (.cells #[.slice a1 nv d1, .slice a2 na d2, .slice a3 nb d3] 41)).alloc (.cells #[.int .i64 0, .int .i64 0, .slice none 0 0] 45)).heap.size := by simp
      generalize ((w.alloc (.cells #[.slice a1 nv d1, .slice a2 na d2, .slice a3 nb d3] 41)).alloc (.cells #[.int .i64 0, .int .i64 0, .slice none 0 0] 45)) = w0 at *
      have h0 := h.keep N0 (fun _ f => f.elim)
      have K0 : One br w w0 := N0.mono (fun _ _ f => f.elim)
      clear h N0
      obtain ⟨p0, p1, p2⟩ := cells3 bP_0
      have pl := heap_lt bP_0
      go_wp2_with fail
      refine (l2DrawAtom w0 br (p) a1 a2 a3 nv d1 na d2 nb d3 h0 (by omega) hnv).mono ?_
      rintro e wa ⟨k, v, a, dd, ks, q, rfl, k_, h_, hq, hks, hsz, b1, b2, b3, b4⟩
      have z_ := k_.size
      have bP_ := k_.bo bP_0
      have bR_ := k_.bo bR_0
      have K_ := K0.trans k_
      have hksh := Lib.hid hks
      clear hks k_ 
      clear p0 p1 p2 pl
      obtain ⟨e0, e1, e2⟩ := cells3 bR_
      have ef := frozen_of_heap bR_
      have rl := heap_lt bR_
      go_wp2
      have hkz := setMany_kp (w.heap.size + 1) [.int .i64 k, .int .i64 v, .slice a ks.length dd] wa 0
      have zs := setMany_size (w.heap.size + 1) [.int .i64 k, .int .i64 v, .slice a ks.length dd] wa 0
      have hR := setMany_row [.int .i64 k, .int .i64 v, .slice a ks.length dd] bR_ rfl
      have hKz := (hksh.out.kp hkz (by omega) (fun k e => .inl (by omega))).mono (lo' := w.heap.size) (hi' := (setMany wa (w.heap.size + 1) 0 [.int .i64 k, .int .i64 v, .slice a ks.length dd]).heap.size) (by omega) (by omega)
      exact bodyPost_ret (results_cell_row rfl _ _ _ _ _ _ _ rfl hR Tryd.underlying45 rfl (by kernel_rfl)) rfl ⟨_, _, _, _, _, q, rfl, one_on K_ hkz (by omega), h_.keep hkz (fun k e => by omega), by simp only [pc]; omega, hKz, by simp only [nd]; omega, by omega, by omega, by omega, by omega⟩
    · have hz2 : ¬ z < 2 := by omega
      have hz3 : z ≤ 1001 := by omega
      have hzz := Lib.hid hz
      have hih := Lib.hid ih
      have hc := Lib.hid hc1
      have hn := Lib.hid hn1
      clear ih hc1 hn1 hz
      have hbl := h.lt
      go_enter Tryd.func108, Tryd.ntmps108
      go_wp2_with fail
      have N0 : New w ((w.alloc (.cells #[.slice a1 nv d1, .slice a2 na d2, .slice a3 nb d3] 41)).alloc (.cells #[.int .i64 0, .int .i64 0, .slice none 0 0] 45)) := (((Kp.refl _ _).alloc _).alloc _)
      have bP_0 : ((w.alloc (.cells #[.slice a1 nv d1, .slice a2 na d2, .slice a3 nb d3] 41)).alloc (.cells #[.int .i64 0, .int .i64 0, .slice none 0 0] 45)).heap[w.heap.size]? = some (.cells #[.slice a1 nv d1, .slice a2 na d2, .slice a3 nb d3] 41) := heap_old (alloc_heap _ _)
      have bR_0 : ((w.alloc (.cells #[.slice a1 nv d1, .slice a2 na d2, .slice a3 nb d3] 41)).alloc (.cells #[.int .i64 0, .int .i64 0, .slice none 0 0] 45)).heap[w.heap.size + 1]? = some (.cells #[.int .i64 0, .int .i64 0, .slice none 0 0] 45) := heap_at (by simp)
      have z0 : w.heap.size + 1 < ((w.alloc (.cells #[.slice a1 nv d1, .slice a2 na d2, .slice a3 nb d3] 41)).alloc (.cells #[.int .i64 0, .int .i64 0, .slice none 0 0] 45)).heap.size := by simp
      generalize ((w.alloc (.cells #[.slice a1 nv d1, .slice a2 na d2, .slice a3 nb d3] 41)).alloc (.cells #[.int .i64 0, .int .i64 0, .slice none 0 0] 45)) = w0 at *
      have h0 := h.keep N0 (fun _ f => f.elim)
      have K0 : One br w w0 := N0.mono (fun _ _ f => f.elim)
      clear h N0
      obtain ⟨p0, p1, p2⟩ := cells3 bP_0
      have pl := heap_lt bP_0
      go_wp2_with fail
      refine (pick w0 br p _ h0 (by omega)).mono ?_
      rintro e w1 ⟨v, rfl, v0, v1, _, k1, h1⟩
      have z1 := k1.size
      have bP_1 := k1.bo bP_0
      have bR_1 := k1.bo bR_0
      have K1 := K0.trans k1
      clear h0 K0 k1 v1 bP_0 bR_0 p0 p1 p2 pl
      by_cases hv : v = 0
      · subst hv
        obtain ⟨p0, p1, p2⟩ := cells3 bP_1
        have pl := heap_lt bP_1
        go_wp2_with fail
        refine (l2DrawAtom w1 br (p + 1) a1 a2 a3 nv d1 na d2 nb d3 h1 (by omega) hnv).mono ?_
        rintro e wa ⟨k, v, a, dd, ks, q, rfl, k_, h_, hq, hks, hsz, b1, b2, b3, b4⟩
        have z_ := k_.size
        have bP_ := k_.bo bP_1
        have bR_ := k_.bo bR_1
        have K_ := K1.trans k_
        have hksh := Lib.hid hks
        clear hks k_ 
        clear p0 p1 p2 pl
        obtain ⟨e0, e1, e2⟩ := cells3 bR_
        have ef := frozen_of_heap bR_
        have rl := heap_lt bR_
        go_wp2
        have hkz := setMany_kp (w.heap.size + 1) [.int .i64 k, .int .i64 v, .slice a ks.length dd] wa 0
        have zs := setMany_size (w.heap.size + 1) [.int .i64 k, .int .i64 v, .slice a ks.length dd] wa 0
        have hR := setMany_row [.int .i64 k, .int .i64 v, .slice a ks.length dd] bR_ rfl
        have hKz := (hksh.out.kp hkz (by omega) (fun k e => .inl (by omega))).mono (lo' := w.heap.size) (hi' := (setMany wa (w.heap.size + 1) 0 [.int .i64 k, .int .i64 v, .slice a ks.length dd]).heap.size) (by omega) (by omega)
        exact bodyPost_ret (results_cell_row rfl _ _ _ _ _ _ _ rfl hR Tryd.underlying45 rfl (by kernel_rfl)) rfl ⟨_, _, _, _, _, q, rfl, one_on K_ hkz (by omega), h_.keep hkz (fun k e => by omega), by rw [hc.out]; omega, hKz, by rw [hn.out]; omega, by omega, by omega, by omega, by omega⟩
      have hv2 : (v == 0) = false := by simpa using hv
      have hb1 := h1.lt
      go_wp2_with fail
      refine (num _ br (p + 1) _ 9 _ (fun x => x = 3 ∨ 4 ≤ x ∧ x ≤ 11) (h1.keep (S := fun _ => False) ((Kp.refl _ _).alloc _) (fun _ f => f.elim)) (by omega) (by omega) (by omega) (by omega) ?_).mono ?_
      · intro i hi
        match i, hi with
        | 0, _ => exact ⟨_, by decide, World.cell?_alloc_new _ _ _ _⟩
        | 1, _ => exact ⟨_, by decide, World.cell?_alloc_new _ _ _ _⟩
        | 2, _ => exact ⟨_, by decide, World.cell?_alloc_new _ _ _ _⟩
        | 3, _ => exact ⟨_, by decide, World.cell?_alloc_new _ _ _ _⟩
        | 4, _ => exact ⟨_, by decide, World.cell?_alloc_new _ _ _ _⟩
        | 5, _ => exact ⟨_, by decide, World.cell?_alloc_new _ _ _ _⟩
        | 6, _ => exact ⟨_, by decide, World.cell?_alloc_new _ _ _ _⟩
        | 7, _ => exact ⟨_, by decide, World.cell?_alloc_new _ _ _ _⟩
        | 8, _ => exact ⟨_, by decide, World.cell?_alloc_new _ _ _ _⟩
      rintro e w2 ⟨x, rfl, hx, k2, h2⟩
      have kk : One br w1 w2 := ((Kp.refl (fun k => k = br) w1).alloc _).trans k2
      have z2 := kk.size
      have bP_2 := kk.bo bP_1
      have bR_2 := kk.bo bR_1
      have K2 := K1.trans kk
      have hb2 := h2.lt
      clear k2 h1 hv hv2 K1 bP_1 bR_1 kk
      by_cases hx3 : x = 3
      · subst hx3
        by_cases hz0 : na = 0
        · subst hz0
          obtain ⟨p0, p1, p2⟩ := cells3 bP_2
          have pl := heap_lt bP_2
          go_wp2_with fail
          refine (l2DrawAtom w2 br (p + 2) a1 a2 a3 nv d1 0 d2 nb d3 h2 (by omega) hnv).mono ?_
          rintro e wa ⟨k, v, a, dd, ks, q, rfl, k_, h_, hq, hks, hsz, b1, b2, b3, b4⟩
          have z_ := k_.size
          have bP_ := k_.bo bP_2
          have bR_ := k_.bo bR_2
          have K_ := K2.trans k_
          have hksh := Lib.hid hks
          clear hks k_ 
          clear p0 p1 p2 pl
          obtain ⟨e0, e1, e2⟩ := cells3 bR_
          have ef := frozen_of_heap bR_
          have rl := heap_lt bR_
          go_wp2
          have hkz := setMany_kp (w.heap.size + 1) [.int .i64 k, .int .i64 v, .slice a ks.length dd] wa 0
          have zs := setMany_size (w.heap.size + 1) [.int .i64 k, .int .i64 v, .slice a ks.length dd] wa 0
          have hR := setMany_row [.int .i64 k, .int .i64 v, .slice a ks.length dd] bR_ rfl
          have hKz := (hksh.out.kp hkz (by omega) (fun k e => .inl (by omega))).mono (lo' := w.heap.size) (hi' := (setMany wa (w.heap.size + 1) 0 [.int .i64 k, .int .i64 v, .slice a ks.length dd]).heap.size) (by omega) (by omega)
          exact bodyPost_ret (results_cell_row rfl _ _ _ _ _ _ _ rfl hR Tryd.underlying45 rfl (by kernel_rfl)) rfl ⟨_, _, _, _, _, q, rfl, one_on K_ hkz (by omega), h_.keep hkz (fun k e => by omega), by rw [hc.out]; omega, hKz, by rw [hn.out]; omega, by omega, by omega, by omega, by omega⟩
        have hz1 : ((na : Int) == 0) = false := by simpa using hz0
        obtain ⟨p0, p1, p2⟩ := cells3 bP_2
        have pl := heap_lt bP_2
        go_wp2_with fail
        have kd := (Kp.refl (fun _ => False) w2).drew
        have hd2 := h2.keep kd (fun _ f => f.elim)
        have zd := kd.size
        have bPd := heap_new kd bP_2
        have bRd := heap_new kd bR_2
        have Kd : One br w w2.drew := K2.trans (kd.mono fun _ _ f => f.elim)
        refine wp_region_tail (k := 11) (S := fun w' => w'.cell? ⟨w.heap.size, 0, none⟩ = some (.slice a1 nv d1) ∧ w'.cell? ⟨w.heap.size, 1, none⟩ = some (.slice a2 na d2) ∧ w'.cell? ⟨w.heap.size, 2, none⟩ = some (.slice a3 nb d3)) (by kernel_rfl) ?_ (fun hHeld => ?_)
        · exact ⟨p0, p1, p2⟩
        refine AnyK.tw 0 rfl ?_
        try simp only [AP]
        refine AnyK.tw 1 rfl ?_
        try simp only [AP]
        refine AnyK.tw 2 rfl ?_
        try simp only [AP]
        refine AnyK.tk 3 rfl ?_
        try simp only [AP]
        refine AnyK.tw 4 rfl ?_
        try simp only [AP]
        refine AnyK.tw 6 rfl ?_
        try simp only [AP]
        refine AnyK.tk 7 rfl ?_
        try simp only [AP]
        refine AnyK.step (i := 5) (by kernel_rfl) rfl (fun K hK => ?_)
        go_simp
        refine (pick w2.drew br (p + 2) _ hd2 (by omega)).mono ?_
        rintro e w3 ⟨y, rfl, y0, y1, _, k3, h3⟩
        have y2 : y ≤ 1000000 := by have := y1 (by omega); omega
        have z3 := k3.size
        have bP_3 := k3.bo bPd
        have bR_3 := k3.bo bRd
        have K3 := Kd.trans k3
        clear y1
        obtain ⟨c0, c1, c2⟩ := cells3 bP_3
        refine hK.out _ _ ?_ (fun hHeld2 => ?_)
        · exact ⟨c0, c1, c2⟩
        clear hK K hHeld
        have hHeld := hHeld2
        clear hHeld2
        try simp only [AP]
        refine AnyK.step (i := 8) (by kernel_rfl) rfl (fun K hK => ?_)
        go_simp
        refine (l2DrawAtom w3 br (p + 3) a1 a2 a3 nv d1 na d2 nb d3 h3 (by omega) hnv).mono ?_
        rintro e wa ⟨k, v, a, dd, ks, q, rfl, k_, h_, hq, hks, hsz, b1, b2, b3, b4⟩
        have z_ := k_.size
        have bP_ := k_.bo bP_3
        have bR_ := k_.bo bR_3
        have K_ := K3.trans k_
        have hksh := Lib.hid hks
        clear hks k_ 
        obtain ⟨g0, g1, g2⟩ := cells3 bP_
        refine hK.out _ _ ?_ (fun hHeld2 => ?_)
        · exact ⟨g0, g1, g2⟩
        clear hK K hHeld
        have hHeld := hHeld2
        clear hHeld2
        try simp only [AP]
        refine AnyK.step (i := 9) (by kernel_rfl) rfl (fun K hK => ?_)
        go_simp
        have kn : New wa (wa.alloc (.cells #[.int .i64 k, .int .i64 v, .slice a ks.length dd] 45)) := (Kp.refl _ _).alloc _
        have bPn := heap_new kn bP_
        have bRn := heap_new kn bR_
        have hkn := hksh.out.new (Nat.le_refl _) kn
        have bNn := alloc_heap wa (.cells #[.int .i64 k, .int .i64 v, .slice a ks.length dd] 45)
        have zn : wa.heap.size < (wa.alloc (.cells #[.int .i64 k, .int .i64 v, .slice a ks.length dd] 45)).heap.size := by simp
        have hK1 := Lib.hid (kids1 bNn (hkn.mono (lo' := w3.heap.size) (hi' := (wa.alloc (.cells #[.int .i64 k, .int .i64 v, .slice a ks.length dd] 45)).heap.size) (Nat.le_refl _) (by omega)) (by omega) zn)
        have h_n := h_.keep kn (fun _ f => f.elim)
        have K_n := K_.nw kn
        have hay := Lib.hid (show wa.heap.size < _ from zn)
        generalize hwn : wa.alloc (.cells #[.int .i64 k, .int .i64 v, .slice a ks.length dd] 45) = wn at *
        clear hwn hkn bNn
        obtain ⟨j0, j1, j2⟩ := cells3 bPn
        refine hK.out _ _ ?_ (fun hHeld2 => ?_)
        · exact ⟨j0, j1, j2⟩
        clear hK K hHeld
        have hHeld := hHeld2
        clear hHeld2
        try simp only [AP]
        refine AnyK.tw 10 rfl ?_
        try simp only [AP]
        refine AnyK.last (by kernel_rfl) ?_
        simp only [List.drop_succ_cons, List.drop_zero]
        clear hHeld
        obtain ⟨e0, e1, e2⟩ := cells3 bRn
        have ef := frozen_of_heap bRn
        have rl := heap_lt bRn
        go_wp2
        have hkz := setMany_kp (w.heap.size + 1) [.int .i64 3, .int .i64 y, .slice (some ⟨wa.heap.size, 0, none⟩) 1 1] wn 0
        have zs := setMany_size (w.heap.size + 1) [.int .i64 3, .int .i64 y, .slice (some ⟨wa.heap.size, 0, none⟩) 1 1] wn 0
        have hR := setMany_row [.int .i64 3, .int .i64 y, .slice (some ⟨wa.heap.size, 0, none⟩) 1 1] bRn rfl
        have hKz := (hK1.out.kp hkz (by omega) (fun k e => .inl (by omega))).mono (lo' := w.heap.size) (hi' := (setMany wn (w.heap.size + 1) 0 [.int .i64 3, .int .i64 y, .slice (some ⟨wa.heap.size, 0, none⟩) 1 1]).heap.size) (by omega) (by omega)
        exact bodyPost_ret (results_cell_row rfl _ _ _ _ _ _ _ rfl hR Tryd.underlying45 rfl (by kernel_rfl)) rfl ⟨_, _, _, _, [.node k v ks], q, rfl, one_on K_n hkz (by omega), h_n.keep hkz (fun k e => by omega), by rw [hc.out]; omega, hKz, by rw [hn.out]; simp only [Ex.sizes, Ex.size]; omega, by omega, by omega, by omega, by omega⟩
      have hx4 : 4 ≤ x := by omega
      have hx11 : x ≤ 11 := by omega
      have hxne : (x == 3) = false := by simpa using hx3
      clear hx
      obtain ⟨ar, har, har2⟩ : ∃ ar : Nat, Val.arity x = ar ∧ ar ≤ 3 := by
        unfold Val.arity
        rw [if_neg (by omega), if_neg hx3]
        by_cases h : x ≤ 10
        · exact ⟨2, by rw [if_pos ⟨hx4, h⟩]; rfl, by omega⟩
        · exact ⟨3, by rw [if_neg (by omega), if_pos (by omega)]; rfl, by omega⟩
      clear hx3
      have harh := Lib.hid har
      clear har
      have kE : New w2 (w2.alloc (.cells #[.int .i64 x, .int .i64 0, .slice none 0 0] 45)) := (Kp.refl _ _).alloc _
      have bPe := heap_new kE bP_2
      have bRe := heap_new kE bR_2
      have bEe := alloc_heap w2 (.cells #[.int .i64 x, .int .i64 0, .slice none 0 0] 45)
      have hLp : Lp w br (p + 2) (pc d) (nd d) w2.heap.size #[.slice a1 nv d1, .slice a2 na d2, .slice a3 nb d3] x 0 (w2.alloc (.cells #[.int .i64 x, .int .i64 0, .slice none 0 0] 45)) := ⟨[], none, 0, p + 2, rfl, K2.trans (kE.mono fun _ _ f => f.elim), h2.keep kE (fun _ f => f.elim), by omega, bPe, bRe, bEe, RowG.nil _ _ _, by simp [Ex.sizes], by omega⟩
      have hLh := Lib.hid hLp
      clear bPe bRe bEe kE hLp K2 h2 bP_2 bR_2
      go_wp2_with fail
      refine (ShapeV.l2Arity x).mono ?_
      rintro e w3 ⟨rfl, rfl⟩
      rw [harh.out]
      go_wp2_with fail
      generalize w2.alloc (.cells #[.int .i64 x, .int .i64 0, .slice none 0 0] 45) = w3 at *
      generalize w2.heap.size = bo at *
      go_loopw [9] (fun i wr => ∃ j : Nat, j ≤ ar ∧ i = .int .i64 j ∧ Lp w br (p + 2) (pc d) (nd d) bo #[.slice a1 nv d1, .slice a2 na d2, .slice a3 nb d3] x (ar - j) wr) (fun i _ => (intOf i).toNat)
      case atStart => exact ⟨ar, Nat.le_refl _, rfl, by rw [Nat.sub_self]; exact hLh.out⟩
      case round =>
        obtain ⟨j, hj, rfl, l, a, dd, q, hl, K, hr, hq, bP, bR, bE, hG, hsz, hbo⟩ := hrel
        clear hLh
        have hGh := Lib.hid hG
        have hlh := Lib.hid hl
        have hbr := hr.lt
        have bl := heap_lt bE
        clear hG hl
        by_cases hlt : 0 < j
        · obtain ⟨m, hm⟩ : ∃ m, ar - j = m := ⟨_, rfl⟩
          rw [hm] at hq bE hGh hlh hsz
          have hm2 : ar - (j - 1) = m + 1 := by omega
          have hm2h := Lib.hid hm2
          have hmh := Lib.hid hm
          have hm3 : m ≤ 2 := by omega
          have hmul : m * pc d ≤ 2 * pc d := Nat.mul_le_mul_right _ hm3
          clear hm hm2
          obtain ⟨p0, p1, p2⟩ := cells3 bP
          have pl := heap_lt bP
          have s2 := cell_of_heap bE 2
          have kd := (Kp.refl (fun _ => False) wr).drew
          have hrd := hr.keep kd (fun _ f => f.elim)
          have bPd := heap_new kd bP
          have bRd := heap_new kd bR
          have bEd := heap_new kd bE
          have Kd : One br w wr.drew := K.trans (kd.mono fun _ _ f => f.elim)
          have hGd := Lib.hid (hGh.out.new kd)
          have zK := K.size
          go_wp2_with fail
          have hsub : IntKind.i64.wrap (z - 1) = z - 1 := IntWalk.i64_in _ (by omega)
          refine wp_region_tail (k := 10) (S := fun w' => w'.cell? ⟨bo, 2, none⟩ = some (.slice a m dd) ∧ w'.cell? ⟨w.heap.size, 0, none⟩ = some (.slice a1 nv d1) ∧ w'.cell? ⟨w.heap.size, 1, none⟩ = some (.slice a2 na d2) ∧ w'.cell? ⟨w.heap.size, 2, none⟩ = some (.slice a3 nb d3)) (by kernel_rfl) ?_ (fun hHeld => ?_)
          · exact ⟨s2, p0, p1, p2⟩
          refine AnyK.tw 0 rfl ?_
          try simp only [AP]
          refine AnyK.tk 1 rfl ?_
          try simp only [AP]
          refine AnyK.tw 2 rfl ?_
          try simp only [AP]
          refine AnyK.tk 3 rfl ?_
          try simp only [AP]
          refine AnyK.tw 4 rfl ?_
          try simp only [AP]
          refine AnyK.tw 5 rfl ?_
          try simp only [AP]
          refine AnyK.step (i := 6) (by kernel_rfl) rfl (fun K hK => ?_)
          go_simp
          refine (hih.out wr.drew br q _ (by have := hzz.out; omega) (by omega) hrd (by omega)).mono ?_
          rintro e w1 ⟨k, v, a', dd', ks, q', rfl, k1, h1, hq1, hks, hsz1, b1, b2, b3, b4⟩
          have z1 := k1.size
          have zd := kd.size
          have bP1 := k1.bo bPd
          have bR1 := k1.bo bRd
          have bE1 := k1.bo bEd
          have K1 := Kd.trans k1
          have hG1 := Lib.hid (hGd.out.kp k1 (fun b e => by omega))
          have hGl := hGd.out.lt
          have hksh := Lib.hid hks
          clear hks
          have fs := cell_of_heap bE1 2
          obtain ⟨f0, f1, f2⟩ := cells3 bP1
          refine hK.out _ _ ?_ (fun hHeld2 => ?_)
          · exact ⟨fs, f0, f1, f2⟩
          clear hK K hHeld
          have hHeld := hHeld2
          clear hHeld2
          try simp only [AP]
          refine AnyK.step (i := 7) (by kernel_rfl) rfl (fun K hK => ?_)
          go_simp
          have kn : New w1 (w1.alloc (.cells #[.int .i64 k, .int .i64 v, .slice a' ks.length dd'] 45)) := (Kp.refl _ _).alloc _
          have bPn := heap_new kn bP1
          have bRn := heap_new kn bR1
          have bEn := heap_new kn bE1
          have gs := cell_of_heap bEn 2
          obtain ⟨g0, g1, g2⟩ := cells3 bPn
          refine hK.out _ _ ?_ (fun hHeld2 => ?_)
          · exact ⟨gs, g0, g1, g2⟩
          clear hK K hHeld
          have hHeld := hHeld2
          clear hHeld2
          try simp only [AP]
          refine AnyK.step (i := 8) (by kernel_rfl) rfl (fun K hK => ?_)
          have his : RX.Is (w1.alloc (.cells #[.int .i64 k, .int .i64 v, .slice a' ks.length dd'] 45)) wr.drew.heap.size w1.heap.size ⟨k, v, .slice a' ks.length dd'⟩ (.node k v ks) := ⟨rfl, rfl, hksh.out.new (Nat.le_refl _) kn⟩
          have hish := Lib.hid his
          clear his
          refine step_grow rfl (.tmp 52) (.tmp 58) 43 rfl (bo + 1) 45 _ 40 Tryd.underlying43 infoX rfl (by decide) (.slice a m dd) l rfl (hG1.out.new kn) w1.heap.size 1 ⟨k, v, .slice a' ks.length dd'⟩ (.node k v ks) rfl (Nat.le_refl _) (by decide) (newsX _ _ _ _ _) hish.out.one wr.drew.heap.size w1.heap.size (by omega) (size_alloc_le (Nat.le_refl _) _) (fun b hb => .inl (hGl b hb).2) hish.out ?_ ?_ ?_ ?_
          · have := hlh.out; omega
          · have := hlh.out; omega
          · exact size_alloc_le (by omega) _
          intro v2 w2 hG2 hk2 ha2
          obtain ⟨a6, d6, e6, _⟩ := hG2.len
          have hlen : (l ++ [Ex.node k v ks]).length = m + 1 := by simp [hlh.out]
          rw [hlen] at e6
          subst e6
          have hlenh := Lib.hid hlen
          have hG2h := Lib.hid hG2
          have k2 : Kp (fun b => bo + 1 ≤ b) (w1.alloc (.cells #[.int .i64 k, .int .i64 v, .slice a' ks.length dd'] 45)) w2 := hk2.mono fun b _ e => (hGl b e).1
          have zn : w1.heap.size ≤ (w1.alloc (.cells #[.int .i64 k, .int .i64 v, .slice a' ks.length dd'] 45)).heap.size := size_alloc_le (Nat.le_refl _) _
          have z2 := k2.size
          have bP2 := k2.bo bPn
          have bR2 := k2.bo bRn
          have bE2 := k2.bo bEn
          have hr2 := (h1.keep kn (fun _ f => f.elim)).keep k2 (fun b e => by omega)
          have K2 := K1.trans (kn.mono fun _ _ f => f.elim)
          clear hlen hG2 hk2 ha2
          have us := cell_of_heap bE2 2
          obtain ⟨u0, u1, u2⟩ := cells3 bP2
          refine hK.out _ _ ?_ (fun hHeld2 => ?_)
          · exact ⟨us, u0, u1, u2⟩
          clear hK K hHeld
          have hHeld := hHeld2
          clear hHeld2
          try simp only [AP]
          refine AnyK.tw 9 rfl ?_
          try simp only [AP]
          refine AnyK.last (by kernel_rfl) ?_
          simp only [List.drop_succ_cons, List.drop_zero]
          clear hHeld
          have uf := frozen_of_heap bE2
          have bl2 := heap_lt bE2
          have kz : One bo w2 (w2.setCell ⟨bo, 2, none⟩ (.slice a6 (m + 1) d6)) := (Kp.refl (fun k => k = bo) _).setCell (.inl rfl) _
          have zz := kz.size
          have K3 : One br w w2 := one_new K2 k2 (fun i e => by omega)
          have K4 := one_on K3 kz (by omega)
          have hr4 := hr2.keep kz (fun b e => by omega)
          have bP4 := heap_set (o := 2) bP2 (show w.heap.size ≠ bo by omega) (.slice a6 (m + 1) d6)
          have bR4 := heap_set (o := 2) bR2 (show w.heap.size + 1 ≠ bo by omega) (.slice a6 (m + 1) d6)
          have bE4 := setCell_heap (o := 2) bE2 (.slice a6 (m + 1) d6)
          have hG4 := hG2h.out.kp kz (fun b e => by omega)
          have hLp : Lp w br (p + 2) (pc d) (nd d) bo #[.slice a1 nv d1, .slice a2 na d2, .slice a3 nb d3] x (m + 1) (w2.setCell ⟨bo, 2, none⟩ (.slice a6 (m + 1) d6)) := ⟨l ++ [.node k v ks], a6, d6, q', hlenh.out, K4, hr4, by rw [Nat.add_mul]; omega, bP4, bR4, bE4, hG4, by rw [sizes_snoc, Nat.add_mul]; simp only [Ex.size]; omega, hbo⟩
          have hLh := Lib.hid hLp
          clear hLp K4 hr4 bP4 bR4 bE4 hG4 kz K3 K2 hr2 bP2 bR2 p0 p1 p2 pl s2 fs f0 f1 f2 gs g0 g1 g2 u0 u1 u2 bPn bRn bEn bP1 bR1 bE1 bPd bRd bEd bP bR bE hGl
          go_wp2
          go_roundw
          case rel => exact ⟨j - 1, by omega, by go_num, by rw [hm2h.out]; exact hLh.out⟩
          case measure => simp [intOf]; omega
        · obtain rfl : j = 0 := by omega
          rw [Nat.sub_zero] at hq bE hGh hlh hsz
          have hmul : ar * pc d ≤ 3 * pc d := Nat.mul_le_mul_right _ har2
          have hmul2 : ar * nd d ≤ 3 * nd d := Nat.mul_le_mul_right _ har2
          have zK := K.size
          obtain ⟨s0, s1, s2⟩ := cells3 bE
          have hkids := Lib.hid hGh.out.kids
          obtain ⟨e0, e1, e2⟩ := cells3 bR
          have ef := frozen_of_heap bR
          have rl := heap_lt bR
          have hlq := hlh.out
          clear hlt
          subst hlq
          go_wp2
          have hkz := setMany_kp (w.heap.size + 1) [.int .i64 x, .int .i64 0, .slice a l.length dd] wr 0
          have zs := setMany_size (w.heap.size + 1) [.int .i64 x, .int .i64 0, .slice a l.length dd] wr 0
          have hR := setMany_row [.int .i64 x, .int .i64 0, .slice a l.length dd] bR rfl
          have hKz := (hkids.out.kp hkz (by omega) (fun k e => .inl (by omega))).mono (lo' := w.heap.size) (hi' := (setMany wr (w.heap.size + 1) 0 [.int .i64 x, .int .i64 0, .slice a l.length dd]).heap.size) (by omega) (by omega)
          exact bodyPost_ret (results_cell_row rfl _ _ _ _ _ _ _ rfl hR Tryd.underlying45 rfl (by kernel_rfl)) rfl ⟨_, _, _, _, _, q, rfl, one_on K hkz (by omega), hr.keep hkz (fun k e => by omega), by rw [hc.out]; omega, hKz, by rw [hn.out]; omega, by omega, by omega, by omega, by omega⟩
theorem pc4 : ∀ d, d < 5 → pc d ≤ 562 ∧ nd d ≤ 121 := by decide
/-- the drawn expression in its variable -/
def Var (w : World) (br p : Nat) (vp : Array Value) (be : Nat) (wd : World) : Prop := ∃ (k v : Int) (a : Option Addr) (dd : Nat) (ks : List Ex) (q lo hi : Nat), One br w wd ∧ Rd wd br q ∧ q ≤ p + 563 ∧ wd.heap[w.heap.size]? = some (.cells vp 41 (0, 0)) ∧ wd.heap[w.heap.size + 1]? = some (.cells #[.int .i64 0, .int .i64 0, .slice none 0 0] 45 (0, 0)) ∧
  wd.heap[be]? = some (.cells #[.int .i64 k, .int .i64 v, .slice a ks.length dd] 45 (0, 0)) ∧ KidsR wd lo hi (.slice a ks.length dd) ks ∧ w.heap.size + 1 < lo ∧ hi ≤ wd.heap.size ∧ w.heap.size + 1 < be ∧ Ex.sizes ks + 1 ≤ 121 ∧ 0 ≤ k ∧ k ≤ 11 ∧ 0 ≤ v ∧ v ≤ 1099511627776
set_option maxHeartbeats 8000000 in
set_option maxRecDepth 100000 in
theorem l2Small (a1 a2 a3 : Option Addr) (nv d1 na d2 nb d3 : Nat) (hnv : nv ≤ 1000000) (hna : na ≤ 1000000) (w : World) (br p : Nat) (h : Rd w br p) (hp : p + 600 < 1099511627776) :
    Calls Tryd.prog 102 #[.pointer (some ⟨br, 0, none⟩), .agg #[.slice a1 nv d1, .slice a2 na d2, .slice a3 nb d3]] w (Got w br p 570 121) := by
  have hbl := h.lt
  go_enter Tryd.func102, Tryd.ntmps102
  go_wp2_with fail
  have N0 : New w ((w.alloc (.cells #[.slice a1 nv d1, .slice a2 na d2, .slice a3 nb d3] 41)).alloc (.cells #[.int .i64 0, .int .i64 0, .slice none 0 0] 45)) := (((Kp.refl _ _).alloc _).alloc _)
  have bP_0 : ((w.alloc (.cells #[.slice a1 nv d1, .slice a2 na d2, .slice a3 nb d3] 41)).alloc (.cells #[.int .i64 0, .int .i64 0, .slice none 0 0] 45)).heap[w.heap.size]? = some (.cells #[.slice a1 nv d1, .slice a2 na d2, .slice a3 nb d3] 41) := heap_old (alloc_heap _ _)
  have bR_0 : ((w.alloc (.cells #[.slice a1 nv d1, .slice a2 na d2, .slice a3 nb d3] 41)).alloc (.cells #[.int .i64 0, .int .i64 0, .slice none 0 0] 45)).heap[w.heap.size + 1]? = some (.cells #[.int .i64 0, .int .i64 0, .slice none 0 0] 45) := heap_at (by simp)
  have z0 : w.heap.size + 1 < ((w.alloc (.cells #[.slice a1 nv d1, .slice a2 na d2, .slice a3 nb d3] 41)).alloc (.cells #[.int .i64 0, .int .i64 0, .slice none 0 0] 45)).heap.size := by simp
  generalize ((w.alloc (.cells #[.slice a1 nv d1, .slice a2 na d2, .slice a3 nb d3] 41)).alloc (.cells #[.int .i64 0, .int .i64 0, .slice none 0 0] 45)) = w0 at *
  have h0 := h.keep N0 (fun _ f => f.elim)
  have K0 : One br w w0 := N0.mono (fun _ _ f => f.elim)
  clear h N0
  go_cut [5] (fun p5 wx => ∃ be, p5 = .pointer (some ⟨be, 0, none⟩) ∧ Var w br p #[.slice a1 nv d1, .slice a2 na d2, .slice a3 nb d3] be wx)
  case first =>
    have kd := (Kp.refl (fun _ => False) w0).drew
    have zd := kd.size
    have hd := h0.keep kd (fun _ f => f.elim)
    have bPd := heap_new kd bP_0
    have bRd := heap_new kd bR_0
    have Kd : One br w w0.drew := K0.trans (kd.mono fun _ _ f => f.elim)
    obtain ⟨p0, p1, p2⟩ := cells3 bPd
    refine wp_region_tail (k := 7) (S := fun w' => w'.cell? ⟨w.heap.size, 0, none⟩ = some (.slice a1 nv d1) ∧ w'.cell? ⟨w.heap.size, 1, none⟩ = some (.slice a2 na d2) ∧ w'.cell? ⟨w.heap.size, 2, none⟩ = some (.slice a3 nb d3)) (by kernel_rfl) ?_ (fun hHeld => ?_)
    · exact ⟨p0, p1, p2⟩
    refine AnyK.tw 0 rfl ?_
    try simp only [AP]
    refine AnyK.tk 1 rfl ?_
    try simp only [AP]
    refine AnyK.tw 2 rfl ?_
    try simp only [AP]
    refine AnyK.two (i := 3) (j := 6) (by kernel_rfl) rfl rfl (fun K hK => ?_) (fun K hK => ?_)
    · go_simp
      have hnn1 : New w0.drew (w0.alloc (.cells #[.int .i64 2, .int .i64 3, .int .i64 2, .int .i64 1, .int .i64 4] 3)).drew := (show New w0.drew (w0.drew.alloc (.cells #[.int .i64 2, .int .i64 3, .int .i64 2, .int .i64 1, .int .i64 4] 3)) from (Kp.refl _ _).alloc _)
      have zn1 : w0.drew.heap.size < (w0.alloc (.cells #[.int .i64 2, .int .i64 3, .int .i64 2, .int .i64 1, .int .i64 4] 3)).drew.heap.size := (show w0.drew.heap.size < (w0.drew.alloc (.cells #[.int .i64 2, .int .i64 3, .int .i64 2, .int .i64 1, .int .i64 4] 3)).heap.size from lt_alloc _ _)
      have bPn1 := heap_new hnn1 bPd
      have bRn1 := heap_new hnn1 bRd
      have hn1 := hd.keep hnn1 (fun _ f => f.elim)
      have Kn1 := Kd.nw hnn1
      have bNn1 : (w0.alloc (.cells #[.int .i64 2, .int .i64 3, .int .i64 2, .int .i64 1, .int .i64 4] 3)).drew.heap[w0.heap.size]? = some (.cells #[.int .i64 2, .int .i64 3, .int .i64 2, .int .i64 1, .int .i64 4] 3) := (show (w0.drew.alloc (.cells #[.int .i64 2, .int .i64 3, .int .i64 2, .int .i64 1, .int .i64 4] 3)).heap[w0.drew.heap.size]? = _ from alloc_heap _ _)
      generalize (w0.alloc (.cells #[.int .i64 2, .int .i64 3, .int .i64 2, .int .i64 1, .int .i64 4] 3)).drew = wn1 at *
      obtain ⟨n1p0, n1p1, n1p2⟩ := cells3 bPn1
      refine hK.out _ _ ?_ (fun hHeld2 => ?_)
      · exact ⟨n1p0, n1p1, n1p2⟩
      clear hK K hHeld
      have hHeld := hHeld2
      clear hHeld2
      try simp only [AP]
      refine AnyK.two (i := 4) (j := 6) (by kernel_rfl) rfl rfl (fun K hK => ?_) (fun K hK => ?_)
      · go_simp
        have hlN := hn1.lt
        have nn := heap_lt bNn1
        have hNc := Lib.hid (fun i : Nat => cell_of_heap bNn1 i)
        refine (num wn1 br p (w0.heap.size) 5 _ (fun x => 1 ≤ x ∧ x ≤ 4) hn1 (by omega) (by omega) (by have := zd; omega) (by omega) ?_).mono ?_
        · intro i hi
          have hi2 := hNc.out i
          match i, hi with
          | 0, _ => exact ⟨_, by decide, hi2⟩
          | 1, _ => exact ⟨_, by decide, hi2⟩
          | 2, _ => exact ⟨_, by decide, hi2⟩
          | 3, _ => exact ⟨_, by decide, hi2⟩
          | 4, _ => exact ⟨_, by decide, hi2⟩
        rintro e wm2 ⟨x, rfl, ⟨x0, x1⟩, km2, hm2⟩
        have bPm2 := km2.bo bPn1
        have bRm2 := km2.bo bRn1
        have bNm2 := km2.bo bNn1
        have Km2 := Kn1.trans km2
        have zm2 := km2.size
        obtain ⟨dn, hdn⟩ : ∃ dn : Nat, x = dn := ⟨x.toNat, by omega⟩
        have hdh := Lib.hid hdn
        have hd5 : dn < 5 := by omega
        clear hdn hNc
        obtain ⟨y1, y2⟩ := pc4 dn hd5
        obtain ⟨m2p0, m2p1, m2p2⟩ := cells3 bPm2
        refine hK.out _ _ ?_ (fun hHeld2 => ?_)
        · exact ⟨m2p0, m2p1, m2p2⟩
        clear hK K hHeld
        have hHeld := hHeld2
        clear hHeld2
        try simp only [AP]
        refine AnyK.two (i := 5) (j := 6) (by kernel_rfl) rfl rfl (fun K hK => ?_) (fun K hK => ?_)
        · go_simp
          refine (l2Draw a1 a2 a3 nv d1 na d2 nb d3 hnv hna dn wm2 br (p + 1) x hdh.out (by omega) hm2 (by omega)).mono ?_
          rintro e wx3 ⟨k, v, a, dd, ks, q, rfl, kx3, hx3, hq, hks, hsz, b1, b2, b3, b4⟩
          have hxx3 := Lib.hid hks
          clear hks
          have bPx3 := kx3.bo bPm2
          have bRx3 := kx3.bo bRm2
          have bNx3 := kx3.bo bNm2
          have Kx3 := Km2.trans kx3
          have zx3 := kx3.size
          obtain ⟨x3p0, x3p1, x3p2⟩ := cells3 bPx3
          refine hK.out _ _ ?_ (fun hHeld2 => ?_)
          · exact ⟨x3p0, x3p1, x3p2⟩
          clear hK K hHeld
          have hHeld := hHeld2
          clear hHeld2
          try simp only [AP]
          refine AnyK.step (i := 6) (by kernel_rfl) rfl (fun K hK => ?_)
          go_simp
          have hnl4 : New wx3 (wx3.alloc (.cells #[.int .i64 0, .int .i64 0, .slice none 0 0] 45)) := (show New wx3 (wx3.alloc (.cells #[.int .i64 0, .int .i64 0, .slice none 0 0] 45)) from (Kp.refl _ _).alloc _)
          have zl4 : wx3.heap.size < (wx3.alloc (.cells #[.int .i64 0, .int .i64 0, .slice none 0 0] 45)).heap.size := (show wx3.heap.size < (wx3.alloc (.cells #[.int .i64 0, .int .i64 0, .slice none 0 0] 45)).heap.size from lt_alloc _ _)
          have bPl4 := heap_new hnl4 bPx3
          have bRl4 := heap_new hnl4 bRx3
          have bNl4 := heap_new hnl4 bNx3
          have hxl4 := Lib.hid (hxx3.out.new (by omega) hnl4)
          have hl4 := hx3.keep hnl4 (fun _ f => f.elim)
          have Kl4 := Kx3.nw hnl4
          have bBl4 : (wx3.alloc (.cells #[.int .i64 0, .int .i64 0, .slice none 0 0] 45)).heap[wx3.heap.size]? = some (.cells #[.int .i64 0, .int .i64 0, .slice none 0 0] 45) := (show (wx3.alloc (.cells #[.int .i64 0, .int .i64 0, .slice none 0 0] 45)).heap[wx3.heap.size]? = _ from alloc_heap _ _)
          generalize (wx3.alloc (.cells #[.int .i64 0, .int .i64 0, .slice none 0 0] 45)) = wl4 at *
          obtain ⟨l4p0, l4p1, l4p2⟩ := cells3 bPl4
          refine hK.out _ _ ?_ (fun hHeld2 => ?_)
          · exact ⟨l4p0, l4p1, l4p2⟩
          clear hK K hHeld
          have hHeld := hHeld2
          clear hHeld2
          try simp only [AP]
          refine AnyK.last (by kernel_rfl) ?_
          simp only [List.drop_succ_cons, List.drop_zero]
          clear hHeld
          obtain ⟨e0, e1, e2⟩ := cells3 bBl4
          have ef := frozen_of_heap bBl4
          have bl := heap_lt bBl4
          go_wp2
          go_meet
          have hkz := setMany_kp (wx3.heap.size) [.int .i64 k, .int .i64 v, .slice a ks.length dd] wl4 0
          have zs := setMany_size (wx3.heap.size) [.int .i64 k, .int .i64 v, .slice a ks.length dd] wl4 0
          have hR := setMany_row [.int .i64 k, .int .i64 v, .slice a ks.length dd] bBl4 rfl
          have hlz := zd
          have hqs : wx3.heap.size ≤ (setMany wl4 (wx3.heap.size) 0 [.int .i64 k, .int .i64 v, .slice a ks.length dd]).heap.size := by omega
          exact ⟨wx3.heap.size, rfl, k, v, a, dd, ks, q, wm2.heap.size, wx3.heap.size, one_on Kl4 hkz (by omega), hl4.keep hkz (fun k e => by omega), by omega, setMany_other [.int .i64 k, .int .i64 v, .slice a ks.length dd] 0 bPl4 (by omega), setMany_other [.int .i64 k, .int .i64 v, .slice a ks.length dd] 0 bRl4 (by omega), hR, hxl4.out.kp hkz (by omega) (fun k e => by omega), by omega, hqs, by omega, by omega, b1, b2, b3, b4⟩
        · go_simp
          have hnl5 : New wm2 (wm2.alloc (.cells #[.int .i64 0, .int .i64 0, .slice none 0 0] 45)) := (show New wm2 (wm2.alloc (.cells #[.int .i64 0, .int .i64 0, .slice none 0 0] 45)) from (Kp.refl _ _).alloc _)
          have zl5 : wm2.heap.size < (wm2.alloc (.cells #[.int .i64 0, .int .i64 0, .slice none 0 0] 45)).heap.size := (show wm2.heap.size < (wm2.alloc (.cells #[.int .i64 0, .int .i64 0, .slice none 0 0] 45)).heap.size from lt_alloc _ _)
          have bPl5 := heap_new hnl5 bPm2
          have bRl5 := heap_new hnl5 bRm2
          have bNl5 := heap_new hnl5 bNm2
          have hl5 := hm2.keep hnl5 (fun _ f => f.elim)
          have Kl5 := Km2.nw hnl5
          have bBl5 : (wm2.alloc (.cells #[.int .i64 0, .int .i64 0, .slice none 0 0] 45)).heap[wm2.heap.size]? = some (.cells #[.int .i64 0, .int .i64 0, .slice none 0 0] 45) := (show (wm2.alloc (.cells #[.int .i64 0, .int .i64 0, .slice none 0 0] 45)).heap[wm2.heap.size]? = _ from alloc_heap _ _)
          generalize (wm2.alloc (.cells #[.int .i64 0, .int .i64 0, .slice none 0 0] 45)) = wl5 at *
          obtain ⟨l5p0, l5p1, l5p2⟩ := cells3 bPl5
          refine hK.out _ _ ?_ (fun hHeld2 => ?_)
          · exact ⟨l5p0, l5p1, l5p2⟩
          clear hK K hHeld
          have hHeld := hHeld2
          clear hHeld2
          try simp only [AP]
          refine AnyK.step (i := 5) (by kernel_rfl) rfl (fun K hK => ?_)
          go_simp
          refine (l2Draw a1 a2 a3 nv d1 na d2 nb d3 hnv hna dn wl5 br (p + 1) x hdh.out (by omega) hl5 (by omega)).mono ?_
          rintro e wx6 ⟨k, v, a, dd, ks, q, rfl, kx6, hx6, hq, hks, hsz, b1, b2, b3, b4⟩
          have hxx6 := Lib.hid hks
          clear hks
          have bPx6 := kx6.bo bPl5
          have bRx6 := kx6.bo bRl5
          have bBx6 := kx6.bo bBl5
          have bNx6 := kx6.bo bNl5
          have Kx6 := Kl5.trans kx6
          have zx6 := kx6.size
          obtain ⟨x6p0, x6p1, x6p2⟩ := cells3 bPx6
          refine hK.out _ _ ?_ (fun hHeld2 => ?_)
          · exact ⟨x6p0, x6p1, x6p2⟩
          clear hK K hHeld
          have hHeld := hHeld2
          clear hHeld2
          try simp only [AP]
          refine AnyK.last (by kernel_rfl) ?_
          simp only [List.drop_succ_cons, List.drop_zero]
          clear hHeld
          obtain ⟨e0, e1, e2⟩ := cells3 bBx6
          have ef := frozen_of_heap bBx6
          have bl := heap_lt bBx6
          go_wp2
          go_meet
          have hkz := setMany_kp (wm2.heap.size) [.int .i64 k, .int .i64 v, .slice a ks.length dd] wx6 0
          have zs := setMany_size (wm2.heap.size) [.int .i64 k, .int .i64 v, .slice a ks.length dd] wx6 0
          have hR := setMany_row [.int .i64 k, .int .i64 v, .slice a ks.length dd] bBx6 rfl
          have hlz := zd
          have hqs : wx6.heap.size ≤ (setMany wx6 (wm2.heap.size) 0 [.int .i64 k, .int .i64 v, .slice a ks.length dd]).heap.size := by omega
          exact ⟨wm2.heap.size, rfl, k, v, a, dd, ks, q, wl5.heap.size, wx6.heap.size, one_on Kx6 hkz (by omega), hx6.keep hkz (fun k e => by omega), by omega, setMany_other [.int .i64 k, .int .i64 v, .slice a ks.length dd] 0 bPx6 (by omega), setMany_other [.int .i64 k, .int .i64 v, .slice a ks.length dd] 0 bRx6 (by omega), hR, hxx6.out.kp hkz (by omega) (fun k e => by omega), by omega, hqs, by omega, by omega, b1, b2, b3, b4⟩
      · go_simp
        have hnl7 : New wn1 (wn1.alloc (.cells #[.int .i64 0, .int .i64 0, .slice none 0 0] 45)) := (show New wn1 (wn1.alloc (.cells #[.int .i64 0, .int .i64 0, .slice none 0 0] 45)) from (Kp.refl _ _).alloc _)
        have zl7 : wn1.heap.size < (wn1.alloc (.cells #[.int .i64 0, .int .i64 0, .slice none 0 0] 45)).heap.size := (show wn1.heap.size < (wn1.alloc (.cells #[.int .i64 0, .int .i64 0, .slice none 0 0] 45)).heap.size from lt_alloc _ _)
        have bPl7 := heap_new hnl7 bPn1
        have bRl7 := heap_new hnl7 bRn1
        have bNl7 := heap_new hnl7 bNn1
        have hl7 := hn1.keep hnl7 (fun _ f => f.elim)
        have Kl7 := Kn1.nw hnl7
        have bBl7 : (wn1.alloc (.cells #[.int .i64 0, .int .i64 0, .slice none 0 0] 45)).heap[wn1.heap.size]? = some (.cells #[.int .i64 0, .int .i64 0, .slice none 0 0] 45) := (show (wn1.alloc (.cells #[.int .i64 0, .int .i64 0, .slice none 0 0] 45)).heap[wn1.heap.size]? = _ from alloc_heap _ _)
        generalize (wn1.alloc (.cells #[.int .i64 0, .int .i64 0, .slice none 0 0] 45)) = wl7 at *
        obtain ⟨l7p0, l7p1, l7p2⟩ := cells3 bPl7
        refine hK.out _ _ ?_ (fun hHeld2 => ?_)
        · exact ⟨l7p0, l7p1, l7p2⟩
        clear hK K hHeld
        have hHeld := hHeld2
        clear hHeld2
        try simp only [AP]
        refine AnyK.step (i := 4) (by kernel_rfl) rfl (fun K hK => ?_)
        go_simp
        have hlN := hl7.lt
        have nn := heap_lt bNl7
        have hNc := Lib.hid (fun i : Nat => cell_of_heap bNl7 i)
        refine (num wl7 br p (w0.heap.size) 5 _ (fun x => 1 ≤ x ∧ x ≤ 4) hl7 (by omega) (by omega) (by have := zd; omega) (by omega) ?_).mono ?_
        · intro i hi
          have hi2 := hNc.out i
          match i, hi with
          | 0, _ => exact ⟨_, by decide, hi2⟩
          | 1, _ => exact ⟨_, by decide, hi2⟩
          | 2, _ => exact ⟨_, by decide, hi2⟩
          | 3, _ => exact ⟨_, by decide, hi2⟩
          | 4, _ => exact ⟨_, by decide, hi2⟩
        rintro e wm8 ⟨x, rfl, ⟨x0, x1⟩, km8, hm8⟩
        have bPm8 := km8.bo bPl7
        have bRm8 := km8.bo bRl7
        have bBm8 := km8.bo bBl7
        have bNm8 := km8.bo bNl7
        have Km8 := Kl7.trans km8
        have zm8 := km8.size
        obtain ⟨dn, hdn⟩ : ∃ dn : Nat, x = dn := ⟨x.toNat, by omega⟩
        have hdh := Lib.hid hdn
        have hd5 : dn < 5 := by omega
        clear hdn hNc
        obtain ⟨y1, y2⟩ := pc4 dn hd5
        obtain ⟨m8p0, m8p1, m8p2⟩ := cells3 bPm8
        refine hK.out _ _ ?_ (fun hHeld2 => ?_)
        · exact ⟨m8p0, m8p1, m8p2⟩
        clear hK K hHeld
        have hHeld := hHeld2
        clear hHeld2
        try simp only [AP]
        refine AnyK.step (i := 5) (by kernel_rfl) rfl (fun K hK => ?_)
        go_simp
        refine (l2Draw a1 a2 a3 nv d1 na d2 nb d3 hnv hna dn wm8 br (p + 1) x hdh.out (by omega) hm8 (by omega)).mono ?_
        rintro e wx9 ⟨k, v, a, dd, ks, q, rfl, kx9, hx9, hq, hks, hsz, b1, b2, b3, b4⟩
        have hxx9 := Lib.hid hks
        clear hks
        have bPx9 := kx9.bo bPm8
        have bRx9 := kx9.bo bRm8
        have bBx9 := kx9.bo bBm8
        have bNx9 := kx9.bo bNm8
        have Kx9 := Km8.trans kx9
        have zx9 := kx9.size
        obtain ⟨x9p0, x9p1, x9p2⟩ := cells3 bPx9
        refine hK.out _ _ ?_ (fun hHeld2 => ?_)
        · exact ⟨x9p0, x9p1, x9p2⟩
        clear hK K hHeld
        have hHeld := hHeld2
        clear hHeld2
        try simp only [AP]
        refine AnyK.last (by kernel_rfl) ?_
        simp only [List.drop_succ_cons, List.drop_zero]
        clear hHeld
        obtain ⟨e0, e1, e2⟩ := cells3 bBx9
        have ef := frozen_of_heap bBx9
        have bl := heap_lt bBx9
        go_wp2
        go_meet
        have hkz := setMany_kp (wn1.heap.size) [.int .i64 k, .int .i64 v, .slice a ks.length dd] wx9 0
        have zs := setMany_size (wn1.heap.size) [.int .i64 k, .int .i64 v, .slice a ks.length dd] wx9 0
        have hR := setMany_row [.int .i64 k, .int .i64 v, .slice a ks.length dd] bBx9 rfl
        have hlz := zd
        have hqs : wx9.heap.size ≤ (setMany wx9 (wn1.heap.size) 0 [.int .i64 k, .int .i64 v, .slice a ks.length dd]).heap.size := by omega
        exact ⟨wn1.heap.size, rfl, k, v, a, dd, ks, q, wm8.heap.size, wx9.heap.size, one_on Kx9 hkz (by omega), hx9.keep hkz (fun k e => by omega), by omega, setMany_other [.int .i64 k, .int .i64 v, .slice a ks.length dd] 0 bPx9 (by omega), setMany_other [.int .i64 k, .int .i64 v, .slice a ks.length dd] 0 bRx9 (by omega), hR, hxx9.out.kp hkz (by omega) (fun k e => by omega), by omega, hqs, by omega, by omega, b1, b2, b3, b4⟩
    · go_simp
      have hnl10 : New w0.drew (w0.alloc (.cells #[.int .i64 0, .int .i64 0, .slice none 0 0] 45)).drew := (show New w0.drew (w0.drew.alloc (.cells #[.int .i64 0, .int .i64 0, .slice none 0 0] 45)) from (Kp.refl _ _).alloc _)
      have zl10 : w0.drew.heap.size < (w0.alloc (.cells #[.int .i64 0, .int .i64 0, .slice none 0 0] 45)).drew.heap.size := (show w0.drew.heap.size < (w0.drew.alloc (.cells #[.int .i64 0, .int .i64 0, .slice none 0 0] 45)).heap.size from lt_alloc _ _)
      have bPl10 := heap_new hnl10 bPd
      have bRl10 := heap_new hnl10 bRd
      have hl10 := hd.keep hnl10 (fun _ f => f.elim)
      have Kl10 := Kd.nw hnl10
      have bBl10 : (w0.alloc (.cells #[.int .i64 0, .int .i64 0, .slice none 0 0] 45)).drew.heap[w0.heap.size]? = some (.cells #[.int .i64 0, .int .i64 0, .slice none 0 0] 45) := (show (w0.drew.alloc (.cells #[.int .i64 0, .int .i64 0, .slice none 0 0] 45)).heap[w0.drew.heap.size]? = _ from alloc_heap _ _)
      generalize (w0.alloc (.cells #[.int .i64 0, .int .i64 0, .slice none 0 0] 45)).drew = wl10 at *
      obtain ⟨l10p0, l10p1, l10p2⟩ := cells3 bPl10
      refine hK.out _ _ ?_ (fun hHeld2 => ?_)
      · exact ⟨l10p0, l10p1, l10p2⟩
      clear hK K hHeld
      have hHeld := hHeld2
      clear hHeld2
      try simp only [AP]
      refine AnyK.step (i := 3) (by kernel_rfl) rfl (fun K hK => ?_)
      go_simp
      have hnn11 : New wl10 (wl10.alloc (.cells #[.int .i64 2, .int .i64 3, .int .i64 2, .int .i64 1, .int .i64 4] 3)) := (show New wl10 (wl10.alloc (.cells #[.int .i64 2, .int .i64 3, .int .i64 2, .int .i64 1, .int .i64 4] 3)) from (Kp.refl _ _).alloc _)
      have zn11 : wl10.heap.size < (wl10.alloc (.cells #[.int .i64 2, .int .i64 3, .int .i64 2, .int .i64 1, .int .i64 4] 3)).heap.size := (show wl10.heap.size < (wl10.alloc (.cells #[.int .i64 2, .int .i64 3, .int .i64 2, .int .i64 1, .int .i64 4] 3)).heap.size from lt_alloc _ _)
      have bPn11 := heap_new hnn11 bPl10
      have bRn11 := heap_new hnn11 bRl10
      have bBn11 := heap_new hnn11 bBl10
      have hn11 := hl10.keep hnn11 (fun _ f => f.elim)
      have Kn11 := Kl10.nw hnn11
      have bNn11 : (wl10.alloc (.cells #[.int .i64 2, .int .i64 3, .int .i64 2, .int .i64 1, .int .i64 4] 3)).heap[wl10.heap.size]? = some (.cells #[.int .i64 2, .int .i64 3, .int .i64 2, .int .i64 1, .int .i64 4] 3) := (show (wl10.alloc (.cells #[.int .i64 2, .int .i64 3, .int .i64 2, .int .i64 1, .int .i64 4] 3)).heap[wl10.heap.size]? = _ from alloc_heap _ _)
      generalize (wl10.alloc (.cells #[.int .i64 2, .int .i64 3, .int .i64 2, .int .i64 1, .int .i64 4] 3)) = wn11 at *
      obtain ⟨n11p0, n11p1, n11p2⟩ := cells3 bPn11
      refine hK.out _ _ ?_ (fun hHeld2 => ?_)
      · exact ⟨n11p0, n11p1, n11p2⟩
      clear hK K hHeld
      have hHeld := hHeld2
      clear hHeld2
      try simp only [AP]
      refine AnyK.step (i := 4) (by kernel_rfl) rfl (fun K hK => ?_)
      go_simp
      have hlN := hn11.lt
      have nn := heap_lt bNn11
      have hNc := Lib.hid (fun i : Nat => cell_of_heap bNn11 i)
      refine (num wn11 br p (wl10.heap.size) 5 _ (fun x => 1 ≤ x ∧ x ≤ 4) hn11 (by omega) (by omega) (by have := zd; omega) (by omega) ?_).mono ?_
      · intro i hi
        have hi2 := hNc.out i
        match i, hi with
        | 0, _ => exact ⟨_, by decide, hi2⟩
        | 1, _ => exact ⟨_, by decide, hi2⟩
        | 2, _ => exact ⟨_, by decide, hi2⟩
        | 3, _ => exact ⟨_, by decide, hi2⟩
        | 4, _ => exact ⟨_, by decide, hi2⟩
      rintro e wm12 ⟨x, rfl, ⟨x0, x1⟩, km12, hm12⟩
      have bPm12 := km12.bo bPn11
      have bRm12 := km12.bo bRn11
      have bBm12 := km12.bo bBn11
      have bNm12 := km12.bo bNn11
      have Km12 := Kn11.trans km12
      have zm12 := km12.size
      obtain ⟨dn, hdn⟩ : ∃ dn : Nat, x = dn := ⟨x.toNat, by omega⟩
      have hdh := Lib.hid hdn
      have hd5 : dn < 5 := by omega
      clear hdn hNc
      obtain ⟨y1, y2⟩ := pc4 dn hd5
      obtain ⟨m12p0, m12p1, m12p2⟩ := cells3 bPm12
      refine hK.out _ _ ?_ (fun hHeld2 => ?_)
      · exact ⟨m12p0, m12p1, m12p2⟩
      clear hK K hHeld
      have hHeld := hHeld2
      clear hHeld2
      try simp only [AP]
      refine AnyK.step (i := 5) (by kernel_rfl) rfl (fun K hK => ?_)
      go_simp
      refine (l2Draw a1 a2 a3 nv d1 na d2 nb d3 hnv hna dn wm12 br (p + 1) x hdh.out (by omega) hm12 (by omega)).mono ?_
      rintro e wx13 ⟨k, v, a, dd, ks, q, rfl, kx13, hx13, hq, hks, hsz, b1, b2, b3, b4⟩
      have hxx13 := Lib.hid hks
      clear hks
      have bPx13 := kx13.bo bPm12
      have bRx13 := kx13.bo bRm12
      have bBx13 := kx13.bo bBm12
      have bNx13 := kx13.bo bNm12
      have Kx13 := Km12.trans kx13
      have zx13 := kx13.size
      obtain ⟨x13p0, x13p1, x13p2⟩ := cells3 bPx13
      refine hK.out _ _ ?_ (fun hHeld2 => ?_)
      · exact ⟨x13p0, x13p1, x13p2⟩
      clear hK K hHeld
      have hHeld := hHeld2
      clear hHeld2
      try simp only [AP]
      refine AnyK.last (by kernel_rfl) ?_
      simp only [List.drop_succ_cons, List.drop_zero]
      clear hHeld
      obtain ⟨e0, e1, e2⟩ := cells3 bBx13
      have ef := frozen_of_heap bBx13
      have bl := heap_lt bBx13
      go_wp2
      go_meet
      have hkz := setMany_kp (w0.heap.size) [.int .i64 k, .int .i64 v, .slice a ks.length dd] wx13 0
      have zs := setMany_size (w0.heap.size) [.int .i64 k, .int .i64 v, .slice a ks.length dd] wx13 0
      have hR := setMany_row [.int .i64 k, .int .i64 v, .slice a ks.length dd] bBx13 rfl
      have hlz := zd
      have hqs : wx13.heap.size ≤ (setMany wx13 (w0.heap.size) 0 [.int .i64 k, .int .i64 v, .slice a ks.length dd]).heap.size := by omega
      exact ⟨w0.heap.size, rfl, k, v, a, dd, ks, q, wm12.heap.size, wx13.heap.size, one_on Kx13 hkz (by omega), hx13.keep hkz (fun k e => by omega), by omega, setMany_other [.int .i64 k, .int .i64 v, .slice a ks.length dd] 0 bPx13 (by omega), setMany_other [.int .i64 k, .int .i64 v, .slice a ks.length dd] 0 bRx13 (by omega), hR, hxx13.out.kp hkz (by omega) (fun k e => by omega), by omega, hqs, by omega, by omega, b1, b2, b3, b4⟩
  case rest =>
  obtain ⟨be, rfl, k, v, a, dd, ks, q, lo, hi, K, hr, hq, bP, bR, bE, hK, g1, g2, g3, hsz, b1, b2, b3, b4⟩ := hcut
  have hKh := Lib.hid hK
  clear hK h0 K0 bP_0 bR_0
  obtain ⟨p0, p1, p2⟩ := cells3 bP
  have pl := heap_lt bP
  obtain ⟨s0, s1, s2⟩ := cells3 bE
  have sl := heap_lt bE
  have zK := K.size
  go_wp2_with fail
  refine (ShapeV.l2Right (by omega) hKh.out g2 (by omega) (by omega)).mono ?_
  rintro e w5 ⟨rfl, n5⟩
  have z5 := n5.size
  have bP5 := heap_new n5 bP
  have bR5 := heap_new n5 bR
  have bE5 := heap_new n5 bE
  have r5 := heap_lt bR5
  have K5 := K.nw n5
  have hr5 := hr.keep n5 (fun _ f => f.elim)
  have hK5 := Lib.hid (hKh.out.new g2 n5)
  clear K hr bP bR bE hKh n5 p0 p1 p2 pl s0 s1 s2 sl
  cases Val.right nv na (.node k v ks)
  · obtain ⟨p0, p1, p2⟩ := cells3 bP5
    have pl := heap_lt bP5
    go_wp2_with fail
    refine (l2DrawAtom w5 br (q) a1 a2 a3 nv d1 na d2 nb d3 hr5 (by omega) hnv).mono ?_
    rintro e wa ⟨k', v', a', dd', ks', q', rfl, k_, h_, hq', hks, hsz'', b1', b2', b3', b4'⟩
    have z_ := k_.size
    have bP_ := k_.bo bP5
    have bR_ := k_.bo bR5
    have K_ := K5.trans k_
    have hksh := Lib.hid hks
    clear hks k_ 
    clear p0 p1 p2 pl
    obtain ⟨e0, e1, e2⟩ := cells3 bR_
    have ef := frozen_of_heap bR_
    have rl := heap_lt bR_
    go_wp2
    have hkz := setMany_kp (w.heap.size + 1) [.int .i64 k', .int .i64 v', .slice a' ks'.length dd'] wa 0
    have zs := setMany_size (w.heap.size + 1) [.int .i64 k', .int .i64 v', .slice a' ks'.length dd'] wa 0
    have hR := setMany_row [.int .i64 k', .int .i64 v', .slice a' ks'.length dd'] bR_ rfl
    have hKz := (hksh.out.kp hkz (by omega) (fun k e => .inl (by omega))).mono (lo' := w.heap.size) (hi' := (setMany wa (w.heap.size + 1) 0 [.int .i64 k', .int .i64 v', .slice a' ks'.length dd']).heap.size) (by omega) (by omega)
    exact bodyPost_ret (results_cell_row rfl _ _ _ _ _ _ _ rfl hR Tryd.underlying45 rfl (by kernel_rfl)) rfl ⟨_, _, _, _, _, q', rfl, one_on K_ hkz (by omega), h_.keep hkz (fun k e => by omega), by omega, hKz, by omega, by omega, by omega, by omega, by omega⟩
  · obtain ⟨e0, e1, e2⟩ := cells3 bR5
    have ef := frozen_of_heap bR5
    have rl := heap_lt bR5
    obtain ⟨s0, s1, s2⟩ := cells3 bE5
    have sl := heap_lt bE5
    go_wp2
    have hkz := setMany_kp (w.heap.size + 1) [.int .i64 k, .int .i64 v, .slice a ks.length dd] w5 0
    have zs := setMany_size (w.heap.size + 1) [.int .i64 k, .int .i64 v, .slice a ks.length dd] w5 0
    have hR := setMany_row [.int .i64 k, .int .i64 v, .slice a ks.length dd] bR5 rfl
    have hKz := (hK5.out.kp hkz (by omega) (fun k e => .inl (by omega))).mono (lo' := w.heap.size) (hi' := (setMany w5 (w.heap.size + 1) 0 [.int .i64 k, .int .i64 v, .slice a ks.length dd]).heap.size) (by omega) (by omega)
    exact bodyPost_ret (results_cell_row rfl _ _ _ _ _ _ _ rfl hR Tryd.underlying45 rfl (by kernel_rfl)) rfl ⟨_, _, _, _, _, q, rfl, one_on K5 hkz (by omega), hr5.keep hkz (fun k e => by omega), by omega, hKz, by omega, b1, b2, b3, b4⟩
end Go.Proofs.YtckikiaockkmbaaDoor.DrawX
