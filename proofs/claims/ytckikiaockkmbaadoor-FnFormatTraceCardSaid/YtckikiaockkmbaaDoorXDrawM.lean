/- Draws of memories. Condition: fewer than 2^40 picks so far. -/
import Derived.Test.YtckikiaockkmbaaDoorXDrawG
import Derived.Test.YtckikiaockkmbaaDoorXP5
import Derived.Test.YtckikiaockkmbaaDoorXP1
namespace Go.Proofs.YtckikiaockkmbaaDoor
open Go.RowKit Kit
set_option linter.unusedVariables false
theorem RowsO.snocK {w w' : World} {base : Nat} {T : TypeId} {vs : List Value} {l : List (List Int)} (h : RowsO w base T vs l) {S : Nat → Prop} (k : Kp S w w') (hS : ∀ b, S b → b < base) (hb : base ≤ w.heap.size) {v : Value} {x : List Int} (hv : OwnF 1 encI w' w.heap.size T v x) : RowsO w' base T (vs ++ [v]) (l ++ [x]) := by
  have h1 : RowsO w' base T vs l := h.kp k fun v hv b hb hs => by
    obtain ⟨xs, ho⟩ := h.mem hv
    have := (ho.lt b hb).1; have := hS b hs; omega
  refine ⟨by simp [h.len], fun i hi h' => ?_, ?_⟩
  · by_cases e : i < vs.length
    · have e2 : i < l.length := by have := h.len; omega
      rw [List.getElem_append_left e, List.getElem_append_left e2]; exact h1.own i e e2
    · have e1 : i = vs.length := by simp at hi; omega
      subst e1
      have e3 : (vs ++ [v])[vs.length] = v := by simp
      have e4 : (l ++ [x])[vs.length] = x := by simp [h.len]
      rw [e3, e4]; exact hv.mono hb
  · rw [List.pairwise_append]
    refine ⟨h.apart, List.pairwise_singleton _ _, fun a ha c hc b hab hcb => ?_⟩
    rw [List.mem_singleton] at hc
    subst hc
    obtain ⟨xs, ho⟩ := h.mem ha
    have q1 := (ho.lt b hab).2
    have q2 := (hv.lt b hcb).1
    omega
/-- as MatO.grow, but blocks below the matrix may be turned on the way -/
theorem MatO.growK {w : World} {lo : Nat} {TO T : TypeId} {v : Value} {l : List (List Int)} {hi : Nat} (h : MatO w lo hi TO T v l) (hlo : lo ≤ w.heap.size) :
    ∃ vs, OwnF 1 encV w lo TO v vs ∧ vs.length = l.length ∧ ∀ (w1 w2 : World) (v' r : Value) (x : List Int) {S : Nat → Prop}, Kp S w w1 → (∀ b, S b → b < lo) → OwnF 1 encI w1 w.heap.size T r x → Kp (fun k => v.ownBlock = some k) w1 w2 →
      (v'.ownBlock = v.ownBlock ∨ v'.ownBlock = some w1.heap.size) → OwnF 1 encV w2 lo TO v' (vs ++ [r]) → MatO w2 lo w2.heap.size TO T v' (l ++ [x]) := by
  obtain ⟨vs, h1, h2, h3, h4⟩ := h
  refine ⟨vs, h1.own, h2.len, fun w1 w2 v' r x S k1 hS hr k2 hat hv' => ?_⟩
  have h2' := h2.snocK k1 hS hlo hr
  have hvb : ∀ b, v.ownBlock = some b → lo ≤ b ∧ b < w.heap.size := fun b hb => h1.own.lt b hb
  have hrb : ∀ b, r.ownBlock = some b → w.heap.size ≤ b ∧ b < w1.heap.size := fun b hb => hr.lt b hb
  refine MatO.of (vs ++ [r]) hv' (h2'.kp k2 ?_) ?_
  · intro y hy b hb hs
    rcases List.mem_append.1 hy with q | q
    · exact h4 y q b hs hb
    · rw [List.mem_singleton] at q
      subst q
      have := hvb b hs; have := hrb b hb; omega
  · intro y hy b hb hyb
    rcases hat with e | e
    · rw [e] at hb
      rcases List.mem_append.1 hy with q | q
      · exact h4 y q b hb hyb
      · rw [List.mem_singleton] at q
        subst q
        have := hvb b hb; have := hrb b hyb; omega
    · rw [e] at hb
      cases hb
      rcases List.mem_append.1 hy with q | q
      · obtain ⟨xs, ho⟩ := h2.mem q
        have := (ho.lt _ hyb).2; have := k1.size; omega
      · rw [List.mem_singleton] at q
        subst q
        have := hrb _ hyb; omega
end Go.Proofs.YtckikiaockkmbaaDoor
namespace Go.Proofs.YtckikiaockkmbaaDoor.DrawM
open Go.RowKit Kit Draw DrawX MarkC
set_option linter.unusedVariables false
/-- a memory drawn by at most c picks, of at most n values and m rows -/
def GotM (w : World) (br p c n m : Nat) (e : Ending) (w' : World) : Prop := ∃ (ua ub : Value) (ya : List Int) (yb : List (List Int)) (q : Nat), e = .returned (.agg #[ua, ub]) ∧ One br w w' ∧ Rd w' br q ∧ q ≤ p + c ∧ MemO w' w.heap.size w'.heap.size ua ub ya yb ∧ ya.length ≤ n ∧ yb.length ≤ m ∧ ∀ y ∈ yb, 3 ≤ y.length ∧ y.length ≤ 4
def M1 (w : World) (br p : Nat) (vp : Array Value) (m : Nat) (wr : World) : Prop := ∃ (xs : List Int) (a : Option Addr) (d q : Nat), xs.length = m ∧ One br w wr ∧ Rd wr br q ∧ q ≤ p + m ∧ wr.heap[w.heap.size]? = some (.cells vp 41 (0, 0)) ∧ wr.heap[w.heap.size + 1]? = some (.cells #[.slice none 0 0, .slice none 0 0] 101 (0, 0)) ∧ wr.heap[w.heap.size + 1 + 1]? = some (.cells #[.slice a m d, .slice none 0 0] 101 (0, 0)) ∧
  OwnF 1 encI wr (w.heap.size + 3) 3 (.slice a m d) xs
def M2 (w : World) (br p : Nat) (vp : Array Value) (xs : List Int) (a : Option Addr) (d s1 n m : Nat) (wr : World) : Prop := ∃ (yb : List (List Int)) (b : Option Addr) (t q : Nat), yb.length = m ∧ One br w wr ∧ Rd wr br q ∧ q ≤ p + n + 4 * m ∧ wr.heap[w.heap.size]? = some (.cells vp 41 (0, 0)) ∧ wr.heap[w.heap.size + 1]? = some (.cells #[.slice none 0 0, .slice none 0 0] 101 (0, 0)) ∧ wr.heap[w.heap.size + 1 + 1]? = some (.cells #[.slice a n d, .slice b m t] 101 (0, 0)) ∧
  OwnR 1 encI wr (w.heap.size + 3) s1 3 (.slice a n d) xs ∧ MatO wr s1 wr.heap.size 29 3 (.slice b m t) yb ∧ (∀ y ∈ yb, y.length = 4) ∧ s1 ≤ wr.heap.size
def M3 (wr : World) (br q k : Nat) (v : Value) (wk : World) : Prop := ∃ (ys : List Int) (f : Option Addr) (u q3 : Nat), v = .slice f k u ∧ ys.length = k ∧ One br wr wk ∧ Rd wk br q3 ∧ q3 ≤ q + k ∧ OwnF 1 encI wk wr.heap.size 3 (.slice f k u) ys
set_option maxHeartbeats 16000000 in
set_option maxRecDepth 100000 in
theorem l3Memory (w : World) (br p : Nat) (a1 a2 a3 : Option Addr) (nv d1 na d2 nb d3 : Nat) (h : Rd w br p) (hnv : nv ≤ 1000000) (hna : na ≤ 1000000) (hp : p + nv + 4 * na < 1099511627776) :
    Calls Tryd.prog 59 #[.pointer (some ⟨br, 0, none⟩), .agg #[.slice a1 nv d1, .slice a2 na d2, .slice a3 nb d3]] w (GotM w br p (nv + 4 * na) nv na) := by
  have hbl := h.lt
  go_enter Tryd.func59, Tryd.ntmps59
  go_wp2_with fail
  have N0 : New w (((w.alloc (.cells #[.slice a1 nv d1, .slice a2 na d2, .slice a3 nb d3] 41)).alloc (.cells #[.slice none 0 0, .slice none 0 0] 101)).alloc (.cells #[.slice none 0 0, .slice none 0 0] 101)) := (((Kp.refl _ _).alloc _).alloc _).alloc _
  have bP_0 : (((w.alloc (.cells #[.slice a1 nv d1, .slice a2 na d2, .slice a3 nb d3] 41)).alloc (.cells #[.slice none 0 0, .slice none 0 0] 101)).alloc (.cells #[.slice none 0 0, .slice none 0 0] 101)).heap[w.heap.size]? = some (.cells #[.slice a1 nv d1, .slice a2 na d2, .slice a3 nb d3] 41) := heap_old (heap_old (alloc_heap _ _))
  have bR_0 : (((w.alloc (.cells #[.slice a1 nv d1, .slice a2 na d2, .slice a3 nb d3] 41)).alloc (.cells #[.slice none 0 0, .slice none 0 0] 101)).alloc (.cells #[.slice none 0 0, .slice none 0 0] 101)).heap[w.heap.size + 1]? = some (.cells #[.slice none 0 0, .slice none 0 0] 101) := heap_old (heap_at (by simp))
  have bE_0 : (((w.alloc (.cells #[.slice a1 nv d1, .slice a2 na d2, .slice a3 nb d3] 41)).alloc (.cells #[.slice none 0 0, .slice none 0 0] 101)).alloc (.cells #[.slice none 0 0, .slice none 0 0] 101)).heap[w.heap.size + 1 + 1]? = some (.cells #[.slice none 0 0, .slice none 0 0] 101) := heap_at (by simp)
  have z0 : w.heap.size + 1 + 1 < (((w.alloc (.cells #[.slice a1 nv d1, .slice a2 na d2, .slice a3 nb d3] 41)).alloc (.cells #[.slice none 0 0, .slice none 0 0] 101)).alloc (.cells #[.slice none 0 0, .slice none 0 0] 101)).heap.size := by simp
  generalize (((w.alloc (.cells #[.slice a1 nv d1, .slice a2 na d2, .slice a3 nb d3] 41)).alloc (.cells #[.slice none 0 0, .slice none 0 0] 101)).alloc (.cells #[.slice none 0 0, .slice none 0 0] 101)) = w0 at *
  have r0 := h.nw N0
  have K0 : One br w w0 := N0.mono (fun _ _ f => f.elim)
  clear N0 h
  have hL : M1 w br p #[.slice a1 nv d1, .slice a2 na d2, .slice a3 nb d3] 0 w0 := ⟨[], none, 0, p, rfl, K0, r0, by omega, bP_0, bR_0, bE_0, OwnF.nil _ _ _⟩
  have hLh := Lib.hid hL
  clear hL K0 r0 bP_0 bR_0 bE_0
  go_loopw [6] (fun i wr => ∃ j : Nat, j ≤ nv ∧ i = .int .i64 j ∧ M1 w br p #[.slice a1 nv d1, .slice a2 na d2, .slice a3 nb d3] j wr) (fun i _ => nv - (intOf i).toNat)
  case atStart => exact ⟨0, Nat.zero_le _, rfl, hLh.out⟩
  case round =>
    obtain ⟨j, hj, rfl, xs, a, d, q, hl, K0, r0, hq, bP_0, bR_0, bE_0, hO⟩ := hrel
    clear hLh
    have oX_0 := Lib.hid hO
    have hlX := Lib.hid hl
    have zw := K0.size
    have zE := heap_lt bE_0
    have hbr := r0.lt
    clear hl hO
    have cP0 := cell_of_heap bP_0 0
    have lP := heap_lt bP_0
    by_cases hlt : j < nv
    · have cE0 := cell_of_heap bE_0 0
      have lE := heap_lt bE_0
      go_wp2_with fail
      refine wp_region_tail (k := 7) (S := fun w' => w'.cell? ⟨w.heap.size + 1 + 1, 0, none⟩ = some (.slice a j d)) (by kernel_rfl) ?_ (fun hHeld => ?_)
      · exact cE0
      clear cP0 lP cE0 lE
      have hn1 : New wr wr.drew := (Kp.refl _ _).drew
      generalize wr.drew = w1 at *
      have z1 := hn1.size
      have bP_1 := hn1.bk bP_0
      have bR_1 := hn1.bk bR_0
      have bE_1 := hn1.bk bE_0
      have oX_1 := Lib.hid (oX_0.out.new hn1)
      have K1 := K0.nw hn1
      have r1 := r0.nw hn1
      clear bP_0 bR_0 bE_0 oX_0 K0 r0 hn1
      have cE0 := cell_of_heap bE_1 0
      have lE := heap_lt bE_1
      refine AnyK.tw 0 rfl ?_
      try simp only [AP]
      refine AnyK.tk 1 rfl ?_
      try simp only [AP]
      refine AnyK.tw 2 rfl ?_
      try simp only [AP]
      refine AnyK.step (i := 3) (by kernel_rfl) rfl (fun K hK => ?_)
      go_simp
      refine (DrawV.l3Value w1 br (q) r1 (by omega)).mono ?_
      rintro e w2 ⟨x, rfl, ⟨x0, x1⟩, hn2, r2⟩
      have z2 := hn2.size
      have bP_2 := hn2.bo bP_1
      have bR_2 := hn2.bo bR_1
      have bE_2 := hn2.bo bE_1
      have oX_2 := Lib.hid (oX_1.out.kb hn2 (fun b e => by omega))
      have K2 := K1.trans hn2
      clear cE0 lE
      clear bP_1 bR_1 bE_1 oX_1 K1 r1 hn2
      have cE0 := cell_of_heap bE_2 0
      have lE := heap_lt bE_2
      refine hK.out _ _ ?_ (fun hHeld2 => ?_)
      · exact cE0
      clear hK K hHeld
      have hHeld := hHeld2
      clear hHeld2
      try simp only [AP]
      refine AnyK.step (i := 4) (by kernel_rfl) rfl (fun K hK => ?_)
      go_simp
      obtain ⟨hn3, y3, bV_3⟩ := newb w2 (.cells #[.int .i64 x] 3)
      generalize w2.alloc (.cells #[.int .i64 x] 3) = w3 at *
      have z3 := hn3.size
      have bP_3 := hn3.bk bP_2
      have bR_3 := hn3.bk bR_2
      have bE_3 := hn3.bk bE_2
      have oX_3 := Lib.hid (oX_2.out.new hn3)
      have K3 := K2.nw hn3
      have r3 := r2.nw hn3
      clear cE0 lE
      clear bP_2 bR_2 bE_2 oX_2 K2 r2 hn3
      have cE0 := cell_of_heap bE_3 0
      have lE := heap_lt bE_3
      refine hK.out _ _ ?_ (fun hHeld2 => ?_)
      · exact cE0
      clear hK K hHeld
      have hHeld := hHeld2
      clear hHeld2
      try simp only [AP]
      refine AnyK.step (i := 5) (by kernel_rfl) rfl (fun K hK => ?_)
      refine step_pushes rfl (.tmp 19) (.tmp 22) 29 rfl (w.heap.size + 3) 3 _ _ Tryd.underlying29 LawF.infoI rfl (by decide) (.slice a j d) xs rfl oX_3.out _ [x] rfl (FlR.one (b := w2.heap.size) fun t ht => ?_) ?_ ?_ ?_ ?_ ?_
      · obtain rfl : t = 0 := by omega
        exact cell_of_heap bV_3 0
      · intro y hy t
        rw [List.mem_singleton] at hy
        subst hy
        exact oneI _ _
      · have := hlX.out; simp; omega
      · have := hlX.out; simp; omega
      · omega
      intro v4 w4 hv4 hp4 ha4
      have hlt4 := oX_3.out.lt
      have hk4 : Kp (fun b => w.heap.size + 3 ≤ b) w3 w4 := hp4.mono fun b _ e => (hlt4 b e).1
      obtain ⟨a', d', e4, _⟩ := hv4.reads.len
      have hm4 : (xs ++ [x]).length = j + 1 := by simp [hlX.out]
      rw [hm4] at e4
      subst e4
      have oX_4 := Lib.hid hv4
      clear hlX
      have hlX := Lib.hid hm4
      clear hv4 hp4 ha4 hlt4 hm4 oX_3 bV_3
      have z4 := hk4.size
      have bP_4 := hk4.bo bP_3
      have bR_4 := hk4.bo bR_3
      have bE_4 := hk4.bo bE_3
      have K4 : One br w w4 := one_new K3 hk4 (fun b e => by omega)
      have r4 := r3.keep hk4 (fun i e => by omega)
      clear cE0 lE
      clear bP_3 bR_3 bE_3 K3 r3 hk4
      have cE0 := cell_of_heap bE_4 0
      have lE := heap_lt bE_4
      refine hK.out _ _ ?_ (fun hHeld2 => ?_)
      · exact cE0
      clear hK K hHeld
      have hHeld := hHeld2
      clear hHeld2
      try simp only [AP]
      refine AnyK.tw 6 rfl ?_
      try simp only [AP]
      refine AnyK.last (by kernel_rfl) ?_
      simp only [List.drop_succ_cons, List.drop_zero]
      clear hHeld
      clear cE0 lE
      obtain ⟨cE0, cE1⟩ := cells2 bE_4
      have fE := frozen_of_heap bE_4
      have lE := heap_lt bE_4
      have lP := heap_lt bP_4
      have kz : One (w.heap.size + 1 + 1) w4 (w4.setCell ⟨w.heap.size + 1 + 1, 0, none⟩ (.slice a' (j + 1) d')) := (Kp.refl (fun k => k = w.heap.size + 1 + 1) _).setCell (.inl rfl) _
      have zz := kz.size
      have hL : M1 w br p #[.slice a1 nv d1, .slice a2 na d2, .slice a3 nb d3] (j + 1) (w4.setCell ⟨w.heap.size + 1 + 1, 0, none⟩ (.slice a' (j + 1) d')) := ⟨xs ++ [x], a', d', q + 1, hlX.out, one_on K4 kz (by omega), r4.keep kz (fun b e => by omega), by omega, heap_set bP_4 (by omega) _, heap_set bR_4 (by omega) _, setCell_heap bE_4 _, oX_4.out.kb kz (fun b e => by omega)⟩
      have hLh := Lib.hid hL
      clear hL oX_4 K4 r4 kz bR_4 bP_4
      go_wp2
      go_roundw
      case rel => exact ⟨j + 1, by omega, by go_num, hLh.out⟩
      case measure => simp [intOf]; omega
    · obtain rfl : j = nv := by omega
      have oA_0 := Lib.hid (OwnR.of oX_0.out)
      have hL : M2 w br p #[.slice a1 j d1, .slice a2 na d2, .slice a3 nb d3] xs a d wr.heap.size j 0 wr := ⟨[], none, 0, q, rfl, K0, r0, by omega, bP_0, bR_0, bE_0, oA_0.out, MatO.nil _ _ _ _ _, by simp, Nat.le_refl _⟩
      have hLh := Lib.hid hL
      clear hL K0 r0 bP_0 bR_0 bE_0 oA_0 oX_0
      go_wp2_with fail
      clear cP0 lP
      have hs1 : w.heap.size + 3 ≤ wr.heap.size := by omega
      generalize wr.heap.size = s1 at *
      clear zE zw hbr hq hlt
      go_loopw [7] (fun i wr => ∃ m : Nat, m ≤ na ∧ i = .int .i64 m ∧ M2 w br p #[.slice a1 j d1, .slice a2 na d2, .slice a3 nb d3] xs a d s1 j m wr) (fun i _ => na - (intOf i).toNat)
      case atStart => exact ⟨0, Nat.zero_le _, rfl, hLh.out⟩
      case round =>
        obtain ⟨m, hm, rfl, yb, b, t, q, hl, K0, r0, hq, bP_0, bR_0, bE_0, hA, hM, hy, hs2⟩ := hrel
        clear hLh
        have oA_0 := Lib.hid hA
        have oM_0 := Lib.hid hM
        have hlM := Lib.hid hl
        have hyh := Lib.hid hy
        have zw := K0.size
        have zE := heap_lt bE_0
        have hbr := r0.lt
        clear hl hA hM hy
        have cP1 := cell_of_heap bP_0 1
        have lP := heap_lt bP_0
        by_cases hlt : m < na
        · obtain ⟨vs, hvs, hvl, hG⟩ := oM_0.out.growK (by omega)
          have hvl2 : vs.length = m := by rw [hvl]; exact hlM.out
          have hlX := Lib.hid hvl2
          have oX_0 := Lib.hid hvs
          have hGh := Lib.hid hG
          clear hvs hvl hvl2 hG oM_0
          go_wp2_with fail
          clear cP1 lP
          have hn1 : New wr (wr.alloc (.cells #[] 3)) := (Kp.refl _ _).alloc _
          have hE := OwnF.empty (α := Int) (n := 1) (enc := encI) wr 3 (Nat.le_refl _)
          have r1 := r0.nw hn1
          have hL : M3 wr br q 0 (.slice (some ⟨wr.heap.size, 0, none⟩) 0 0) (wr.alloc (.cells #[] 3)) := ⟨[], _, _, q, rfl, rfl, hn1.mono (fun _ _ f => f.elim), r1, Nat.le_refl _, hE⟩
          have hLh := Lib.hid hL
          clear hL hE r1 hn1
          generalize wr = wo at *
          go_loopw [8, 9] (fun v i wr => ∃ k : Nat, k ≤ 4 ∧ i = .int .i64 k ∧ M3 wo br q k v wr) (fun _ i _ => 4 - (intOf i).toNat)
          case atStart => exact ⟨0, Nat.zero_le _, rfl, hLh.out⟩
          case round =>
            obtain ⟨k, hk, rfl, ys, f, u, q3, rfl, hl3, K3, r3, hq3, hO3⟩ := hrel
            clear hLh
            have hO3h := Lib.hid hO3
            have hl3h := Lib.hid hl3
            have z3 := K3.size
            clear hO3 hl3
            by_cases hlk : k < 4
            · go_wp2_with fail
              refine (DrawV.l3Value wr br q3 r3 (by omega)).mono ?_
              rintro e w4 ⟨x, rfl, ⟨x0, x1⟩, hn4, r4⟩
              have z4 := hn4.size
              have hO4 := Lib.hid (hO3h.out.kb hn4 (fun b e => by omega))
              have K4 := K3.trans hn4
              clear hO3h hn4 r3 K3
              have hn5 : New w4 (w4.alloc (.cells #[.int .i64 x] 3)) := (Kp.refl _ _).alloc _
              have c5 : (w4.alloc (.cells #[.int .i64 x] 3)).cell? ⟨w4.heap.size, 0, none⟩ = some (.int .i64 x) := cell_of_heap (alloc_heap _ _) 0
              have y5 : w4.heap.size < (w4.alloc (.cells #[.int .i64 x] 3)).heap.size := lt_alloc _ _
              have hn5h := Lib.hid hn5
              have c5h := Lib.hid c5
              have y5h := Lib.hid y5
              clear hn5 c5 y5
              go_wp2_with (at_builtin; refine wpList_pushesN rfl _ _ 29 rfl wo.heap.size 3 _ _ Tryd.underlying29 LawF.infoI rfl (by decide) (.slice f k u) ys rfl (hO4.out.new hn5h.out) _ [x] rfl (FlR.one (b := w4.heap.size) fun t ht => (by have e0 : t = 0 := (by omega); subst e0; exact c5h.out)) (fun y _ _ => rfl) ?qc1 ?qc2 ?qc3 ?_)
              case qc1 => have := hl3h.out; simp; omega
              case qc2 => have := hl3h.out; simp; omega
              case qc3 => have := y5h.out; omega
              intro v6 w6 hO6 hk6 _
              have k6 : Kp (fun b => wo.heap.size ≤ b) (w4.alloc (.cells #[.int .i64 x] 3)) w6 := hk6.mono fun b _ e => (hO4.out.lt b e).1
              obtain ⟨f2, u2, e6, _⟩ := hO6.reads.len
              have hl6 : (ys ++ [x]).length = k + 1 := by simp [hl3h.out]
              rw [hl6] at e6
              subst e6
              have z6 := k6.size
              have y5 := y5h.out
              have K6 : One br wo w6 := one_new (K4.trans (hn5h.out.mono fun _ _ f => f.elim)) k6 (fun b e => e)
              have hL : M3 wo br q (k + 1) (.slice f2 (k + 1) u2) w6 := ⟨ys ++ [x], f2, u2, q3 + 1, rfl, hl6, K6, (r4.keep hn5h.out (fun _ f => f.elim)).keep k6 (fun b e => by omega), by omega, hO6⟩
              have hLh := Lib.hid hL
              clear hL hO6 hk6 hl6 hl3h hO4 K6 k6 hn5h c5h y5 y5h r4 K4
              go_wp2
              go_roundw
              case rel => exact ⟨k + 1, by omega, by go_num, hLh.out⟩
              case measure => simp [intOf]; omega
            · obtain rfl : k = 4 := by omega
              clear hlk
              have oY := hO3h
              have hn1 := K3
              have oA_1 := Lib.hid (oA_0.out.kp hn1 (fun b e => by omega))
              have oX_1 := Lib.hid (oX_0.out.kb hn1 (fun b e => by omega))
              have bP_1 := hn1.bo bP_0
              have bR_1 := hn1.bo bR_0
              have bE_1 := hn1.bo bE_0
              have K1 := K0.trans hn1
              have r1 := r3
              clear oA_0 oX_0 bP_0 bR_0 bE_0 K0 r0 r3 hO3h
              have cE1 := cell_of_heap bE_1 1
              have lE := heap_lt bE_1
              have oY_1 := oY
              clear oY
              have hnV : New wr (wr.alloc (.cells #[.slice f 4 u] 29)) := (Kp.refl _ _).alloc _
              have cV : (wr.alloc (.cells #[.slice f 4 u] 29)).cell? ⟨wr.heap.size, 0, none⟩ = some (.slice f 4 u) := cell_of_heap (alloc_heap _ _) 0
              have yV : wr.heap.size < (wr.alloc (.cells #[.slice f 4 u] 29)).heap.size := lt_alloc _ _
              have hnVh := Lib.hid hnV
              have cVh := Lib.hid cV
              have yVh := Lib.hid yV
              clear hnV cV yV
              go_wp2_with (at_builtin; refine wpList_pushesN rfl _ _ 99 rfl s1 29 _ _ Tryd.underlying99 MatF.infoM rfl (by decide) (.slice b m t) vs rfl (oX_1.out.new hnVh.out) _ [.slice f 4 u] rfl (FlR.one (b := wr.heap.size) fun t ht => (by have e0 : t = 0 := (by omega); subst e0; exact cVh.out)) (fun y hy t => (by rw [List.mem_singleton] at hy; subst hy; rfl)) ?qd1 ?qd2 ?qd3 ?_)
              case qd1 => have := hlX.out; simp; omega
              case qd2 => have := hlX.out; simp; omega
              case qd3 => have := yVh.out; omega
              intro v2 w2 hv2 hk2 ha2
              have hG2 := hGh.out (wr.alloc (.cells #[.slice f 4 u] 29)) w2 v2 (.slice f 4 u) ys (hn1.trans (hnVh.out.mono fun _ _ f => f.elim)) (fun b e => by omega) (oY_1.out.new hnVh.out) hk2 (by simpa using ha2) hv2
              obtain ⟨b2, t2, e2, _⟩ := hv2.reads.len
              have hm2 : (vs ++ [Value.slice f 4 u]).length = m + 1 := by simp [hlX.out]
              rw [hm2] at e2
              have k2 : Kp (fun b => s1 ≤ b) (wr.alloc (.cells #[.slice f 4 u] 29)) w2 := hk2.mono fun b _ e => (oX_1.out.lt b e).1
              subst e2
              have hG3 := Lib.hid hG2
              have z2 := k2.size
              have yV := yVh.out
              have oA_2 := Lib.hid ((oA_1.out.new (by omega) hnVh.out).kp k2 (fun b e => by omega))
              have bP_2 := (k2.block _ (by have := heap_lt bP_1; omega) (by omega)).trans (heap_new hnVh.out bP_1)
              have bR_2 := (k2.block _ (by have := heap_lt bR_1; omega) (by omega)).trans (heap_new hnVh.out bR_1)
              have bE_2 := (k2.block _ (by have := heap_lt bE_1; omega) (by omega)).trans (heap_new hnVh.out bE_1)
              have K2 := one_new (K1.trans (hnVh.out.mono fun _ _ f => f.elim)) k2 (fun b e => by omega)
              have r2 := (r1.keep hnVh.out (fun _ f => f.elim)).keep k2 (fun b e => by omega)
              clear hG2 hv2 hk2 ha2 hm2 k2 hnVh cVh yVh hGh oX_1 oY_1 oA_1 bP_1 bR_1 bE_1 K1 r1 hn1 hlX
              clear cE1 lE
              obtain ⟨cE0, cE1⟩ := cells2 bE_2
              have fE := frozen_of_heap bE_2
              have lE := heap_lt bE_2
              have kz : One (w.heap.size + 1 + 1) w2 (w2.setCell ⟨w.heap.size + 1 + 1, 1, none⟩ (.slice b2 (m + 1) t2)) := (Kp.refl (fun k => k = w.heap.size + 1 + 1) _).setCell (.inl rfl) _
              have zz := kz.size
              have hl9 : (yb ++ [ys]).length = m + 1 := by simp [hlM.out]
              have hL : M2 w br p #[.slice a1 j d1, .slice a2 na d2, .slice a3 nb d3] xs a d s1 j (m + 1) (w2.setCell ⟨w.heap.size + 1 + 1, 1, none⟩ (.slice b2 (m + 1) t2)) := ⟨yb ++ [ys], b2, t2, q3, hl9, one_on K2 kz (by omega), r2.keep kz (fun b e => by omega), by omega, heap_set bP_2 (by omega) _, heap_set bR_2 (by omega) _, setCell_heap bE_2 _, oA_2.out.kp kz (fun b e => by omega), (hG3.out.kp kz (fun b e => by omega)).mono (Nat.le_refl _) zz, (fun y hy => by
                rcases List.mem_append.1 hy with g | g
                · exact hyh.out y g
                · rw [List.mem_singleton] at g; subst g; exact hl3h.out), by omega⟩
              have hLh := Lib.hid hL
              clear hL oA_2 K2 r2 kz bR_2 bP_2 hG3 hyh hl9
              go_wp2
              go_roundw
              case rel => exact ⟨m + 1, by omega, by go_num, hLh.out⟩
              case measure => simp [intOf]; omega
        · obtain rfl : m = na := by omega
          obtain ⟨cE0, cE1⟩ := cells2 bE_0
          have lE := heap_lt bE_0
          obtain ⟨cR0, cR1⟩ := cells2 bR_0
          have fR := frozen_of_heap bR_0
          have lR := heap_lt bR_0
          go_wp2
          have hkz := setMany_kp (w.heap.size + 1) [.slice a j d, .slice b m t] wr 0
          have zs := setMany_size (w.heap.size + 1) [.slice a j d, .slice b m t] wr 0
          have hR := setMany_row [.slice a j d, .slice b m t] bR_0 rfl
          exact bodyPost_ret (results_cell_row rfl _ _ _ _ _ _ _ rfl hR Tryd.underlying101 rfl (by kernel_rfl)) rfl ⟨_, _, xs, yb, q, rfl, one_on K0 hkz (by omega), r0.keep hkz (fun b e => by omega), by omega, .of (lo := w.heap.size) (hi := (setMany wr (w.heap.size + 1) 0 [.slice a j d, .slice b m t]).heap.size) s1 (by omega) (by omega) ((oA_0.out.kp hkz (fun b e => by omega)).mono (by omega) (Nat.le_refl _)) ((oM_0.out.kp hkz (fun b e => by omega)).mono (Nat.le_refl _) (by omega)), by have := hlX.out; omega, by have := hlM.out; omega, fun y hy => by have := hyh.out y hy; omega⟩
theorem _root_.Go.Proofs.YtckikiaockkmbaaDoor.OwnF.up {α : Type} {n : Nat} {enc : α → Nat → Value} {w : World} {base base' : Nat} {T : TypeId} {v : Value} {xs : List α} (h : OwnF n enc w base T v xs) (hb : ∀ b, v.ownBlock = some b → base' ≤ b) : OwnF n enc w base' T v xs := by
  rcases h.form with ⟨e1, e2⟩ | ⟨b, cap, cs, rfl, hb1, hb2, hb3, hh, hs, hc⟩
  · subst e1; subst e2; exact OwnF.nil _ _ _
  · exact OwnF.mk' hh (hb b (by simp [Value.ownBlock])) hb2 hb3 hs hc
theorem _root_.Go.Proofs.YtckikiaockkmbaaDoor.MarkC.MemO.lt {w : World} {lo hi : Nat} {va vb : Value} {ya : List Int} {yb : List (List Int)} (h : MemO w lo hi va vb ya yb) (b : Nat) (hb : va.ownBlock = some b) : lo ≤ b ∧ b < hi := by
  obtain ⟨p1, p2, p3, p4, q1, q2, q3, q4, q5, A, B⟩ := h
  have := (A.own.lt b hb).1; have := A.top b hb; omega
theorem _root_.Go.Proofs.YtckikiaockkmbaaDoor.MarkC.MemO.vals {w : World} {lo hi n d : Nat} {a : Option Addr} {vb : Value} {ya : List Int} {yb : List (List Int)} (h : MemO w lo hi (.slice a n d) vb ya yb) (h0 : 0 < ya.length) :
    ∃ b, a = some ⟨b, 0, none⟩ ∧ lo ≤ b ∧ b < hi ∧ (∀ i (h : i < ya.length), w.cell? ⟨b, i, none⟩ = some (.int .i64 ya[i])) ∧ (∀ i, w.frozen? ⟨b, i, none⟩ = false) ∧
      ∀ j (hj : j < ya.length) z, MemO (w.setCell ⟨b, j, none⟩ (.int .i64 z)) lo hi (.slice a n d) vb (ya.set j z) yb := by
  obtain ⟨m1, m2, m3, m4, r1, r2, r3, r4, r5, B, C⟩ := h
  obtain ⟨hn, b, rfl, hc, hf⟩ := own_cells B.own h0
  have hl := B.own.lt b (ownBlock_at _ _ _)
  have ht := B.top b (ownBlock_at _ _ _)
  exact ⟨b, rfl, by omega, by omega, hc, hf, fun j hj z => ⟨m1, m2, m3, m4, r1, r2, r3, r4, r5, OwnR_set B hn j hj z, C.kp (S := fun x => x = b) ((Kp.refl (fun x => x = b) w).setCell (.inl rfl) _) (fun x e => by omega)⟩⟩
end Go.Proofs.YtckikiaockkmbaaDoor.DrawM
