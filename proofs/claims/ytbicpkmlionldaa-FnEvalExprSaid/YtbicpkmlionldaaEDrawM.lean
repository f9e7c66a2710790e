/- Draws of memories. Condition: fewer than 2^40 picks so far. -/
import Derived.Test.YtbicpkmlionldaaEDrawG
import Derived.Test.YtbicpkmlionldaaEP5
import Derived.Test.YtbicpkmlionldaaEP1
namespace Go.Proofs.Ytbicpkmlionldaa
open Go.RowKit Kit
set_option linter.unusedVariables false
theorem RowsO.snocK {w w' : World} {base : Nat} {T : TypeId} {vs : List Value} {l : List (List Int)} (h : RowsO w base T vs l) {S : Nat → Prop} (k : Kp S w w') (hS : ∀ b, S b → b < base) (hb : base ≤ w.heap.size) {v : Value} {x : List Int} (hv : OwnF 1 encI w' w.heap.size T v x) : RowsO w' base T (vs ++ [v]) (l ++ [x]) := by
  have h1 : RowsO w' base T vs l := h.kp k fun v hv b hb hs => by
    obtain ⟨xs, ho⟩ := h.mem hv
    have := (ho.lt b hb).1; have := hS b hs; omega
  refine ⟨by simp [h.len], fun i hi h' => ?_, ?_⟩
  · by_cases e : i < vs.length
    · have e2 : i < l.length := by have := h.len; omega
      rw [List.getElem_append_left e, List.getElem_append_left e2]; exact h1.own i e e2
    · have e1 : i = vs.length := by simp at hi; omega
      subst e1
      have e3 : (vs ++ [v])[vs.length] = v := by simp
      have e4 : (l ++ [x])[vs.length] = x := by simp [h.len]
      rw [e3, e4]; exact hv.mono hb
  · rw [List.pairwise_append]
    refine ⟨h.apart, List.pairwise_singleton _ _, fun a ha c hc b hab hcb => ?_⟩
    rw [List.mem_singleton] at hc
    subst hc
    obtain ⟨xs, ho⟩ := h.mem ha
    have q1 := (ho.lt b hab).2
    have q2 := (hv.lt b hcb).1
    omega
/-- as MatO.grow, but blocks below the matrix may be turned on the way -/
theorem MatO.growK {w : World} {lo : Nat} {TO T : TypeId} {v : Value} {l : List (List Int)} {hi : Nat} (h : MatO w lo hi TO T v l) (hlo : lo ≤ w.heap.size) :
    ∃ vs, OwnF 1 encV w lo TO v vs ∧ vs.length = l.length ∧ ∀ (w1 w2 : World) (v' r : Value) (x : List Int) {S : Nat → Prop}, Kp S w w1 → (∀ b, S b → b < lo) → OwnF 1 encI w1 w.heap.size T r x → Kp (fun k => v.ownBlock = some k) w1 w2 →
      (v'.ownBlock = v.ownBlock ∨ v'.ownBlock = some w1.heap.size) → OwnF 1 encV w2 lo TO v' (vs ++ [r]) → MatO w2 lo w2.heap.size TO T v' (l ++ [x]) := by
  obtain ⟨vs, h1, h2, h3, h4⟩ := h
  refine ⟨vs, h1.own, h2.len, fun w1 w2 v' r x S k1 hS hr k2 hat hv' => ?_⟩
  have h2' := h2.snocK k1 hS hlo hr
  have hvb : ∀ b, v.ownBlock = some b → lo ≤ b ∧ b < w.heap.size := fun b hb => h1.own.lt b hb
  have hrb : ∀ b, r.ownBlock = some b → w.heap.size ≤ b ∧ b < w1.heap.size := fun b hb => hr.lt b hb
  refine MatO.of (vs ++ [r]) hv' (h2'.kp k2 ?_) ?_
  · intro y hy b hb hs
    rcases List.mem_append.1 hy with q | q
    · exact h4 y q b hs hb
    · rw [List.mem_singleton] at q
      subst q
      have := hvb b hs; have := hrb b hb; omega
  · intro y hy b hb hyb
    rcases hat with e | e
    · rw [e] at hb
      rcases List.mem_append.1 hy with q | q
      · exact h4 y q b hb hyb
      · rw [List.mem_singleton] at q
        subst q
        have := hvb b hb; have := hrb b hyb; omega
    · rw [e] at hb
      cases hb
      rcases List.mem_append.1 hy with q | q
      · obtain ⟨xs, ho⟩ := h2.mem q
        have := (ho.lt _ hyb).2; have := k1.size; omega
      · rw [List.mem_singleton] at q
        subst q
        have := hrb _ hyb; omega
end Go.Proofs.Ytbicpkmlionldaa
namespace Go.Proofs.Ytbicpkmlionldaa.DrawM
open Go.RowKit Kit Draw DrawX MarkC
set_option linter.unusedVariables false
/-- a memory drawn by at most c picks, of at most n values and m rows -/
def GotM (w : World) (br p c n m : Nat) (e : Ending) (w' : World) : Prop := ∃ (ua ub : Value) (ya : List Int) (yb : List (List Int)) (q : Nat), e = .returned (.agg #[ua, ub]) ∧ One br w w' ∧ Rd w' br q ∧ q ≤ p + c ∧ MemO w' w.heap.size w'.heap.size ua ub ya yb ∧ ya.length ≤ n ∧ yb.length ≤ m ∧ ∀ y ∈ yb, 3 ≤ y.length ∧ y.length ≤ 4
def M1 (w : World) (br p : Nat) (vp : Array Value) (m : Nat) (wr : World) : Prop := ∃ (xs : List Int) (a : Option Addr) (d q : Nat), xs.length = m ∧ One br w wr ∧ Rd wr br q ∧ q ≤ p + m ∧ wr.heap[w.heap.size]? = some (.cells vp 49 (0, 0)) ∧ wr.heap[w.heap.size + 1]? = some (.cells #[.slice none 0 0, .slice none 0 0] 29 (0, 0)) ∧ wr.heap[w.heap.size + 1 + 1]? = some (.cells #[.slice a m d, .slice none 0 0] 29 (0, 0)) ∧
  OwnF 1 encI wr (w.heap.size + 3) 3 (.slice a m d) xs
def M2 (w : World) (br p : Nat) (vp : Array Value) (xs : List Int) (a : Option Addr) (d s1 n m : Nat) (wr : World) : Prop := ∃ (yb : List (List Int)) (b : Option Addr) (t q : Nat), yb.length = m ∧ One br w wr ∧ Rd wr br q ∧ q ≤ p + n + 4 * m ∧ wr.heap[w.heap.size]? = some (.cells vp 49 (0, 0)) ∧ wr.heap[w.heap.size + 1]? = some (.cells #[.slice none 0 0, .slice none 0 0] 29 (0, 0)) ∧ wr.heap[w.heap.size + 1 + 1]? = some (.cells #[.slice a n d, .slice b m t] 29 (0, 0)) ∧
  OwnR 1 encI wr (w.heap.size + 3) s1 3 (.slice a n d) xs ∧ MatO wr s1 wr.heap.size 23 3 (.slice b m t) yb ∧ (∀ y ∈ yb, y.length = 4) ∧ s1 ≤ wr.heap.size
def M3 (wr : World) (br q k : Nat) (v : Value) (wk : World) : Prop := ∃ (ys : List Int) (f : Option Addr) (u q3 : Nat), v = .slice f k u ∧ ys.length = k ∧ One br wr wk ∧ Rd wk br q3 ∧ q3 ≤ q + k ∧ OwnF 1 encI wk wr.heap.size 3 (.slice f k u) ys
set_option maxHeartbeats 16000000 in
set_option maxRecDepth 100000 in
theorem l3Memory (w : World) (br p : Nat) (a1 a2 a3 : Option Addr) (nv d1 na d2 nb d3 : Nat) (h : Rd w br p) (hnv : nv ≤ 1000000) (hna : na ≤ 1000000) (hp : p + nv + 4 * na < 1099511627776) :
    Calls Try.prog 36 #[.pointer (some ⟨br, 0, none⟩), .agg #[.slice a1 nv d1, .slice a2 na d2, .slice a3 nb d3]] w (GotM w br p (nv + 4 * na) nv na) := by
  have hbl := h.lt
  go_enter Try.func36, Try.ntmps36
  go_wp2_with fail
  have N0 : New w (((w.alloc (.cells #[.slice a1 nv d1, .slice a2 na d2, .slice a3 nb d3] 49)).alloc (.cells #[.slice none 0 0, .slice none 0 0] 29)).alloc (.cells #[.slice none 0 0, .slice none 0 0] 29)) := (((Kp.refl _ _).alloc _).alloc _).alloc _
  have bP_0 : (((w.alloc (.cells #[.slice a1 nv d1, .slice a2 na d2, .slice a3 nb d3] 49)).alloc (.cells #[.slice none 0 0, .slice none 0 0] 29)).alloc (.cells #[.slice none 0 0, .slice none 0 0] 29)).heap[w.heap.size]? = some (.cells #[.slice a1 nv d1, .slice a2 na d2, .slice a3 nb d3] 49) := heap_old (heap_old (alloc_heap _ _))
  have bR_0 : (((w.alloc (.cells #[.slice a1 nv d1, .slice a2 na d2, .slice a3 nb d3] 49)).alloc (.cells #[.slice none 0 0, .slice none 0 0] 29)).alloc (.cells #[.slice none 0 0, .slice none 0 0] 29)).heap[w.heap.size + 1]? = some (.cells #[.slice none 0 0, .slice none 0 0] 29) := heap_old (heap_at (by simp))
  have bE_0 : (((w.alloc (.cells #[.slice a1 nv d1, .slice a2 na d2, .slice a3 nb d3] 49)).alloc (.cells #[.slice none 0 0, .slice none 0 0] 29)).alloc (.cells #[.slice none 0 0, .slice none 0 0] 29)).heap[w.heap.size + 1 + 1]? = some (.cells #[.slice none 0 0, .slice none 0 0] 29) := heap_at (by simp)
  have z0 : w.heap.size + 1 + 1 < (((w.alloc (.cells #[.slice a1 nv d1, .slice a2 na d2, .slice a3 nb d3] 49)).alloc (.cells #[.slice none 0 0, .slice none 0 0] 29)).alloc (.cells #[.slice none 0 0, .slice none 0 0] 29)).heap.size := by simp
  generalize (((w.alloc (.cells #[.slice a1 nv d1, .slice a2 na d2, .slice a3 nb d3] 49)).alloc (.cells #[.slice none 0 0, .slice none 0 0] 29)).alloc (.cells #[.slice none 0 0, .slice none 0 0] 29)) = w0 at *
  have r0 := h.nw N0
  have K0 : One br w w0 := N0.mono (fun _ _ f => f.elim)
  clear N0 h
  have hL : M1 w br p #[.slice a1 nv d1, .slice a2 na d2, .slice a3 nb d3] 0 w0 := ⟨[], none, 0, p, rfl, K0, r0, by omega, bP_0, bR_0, bE_0, OwnF.nil _ _ _⟩
  have hLh := Lib.hid hL
  clear hL K0 r0 bP_0 bR_0 bE_0
  go_loopw [6] (fun i wr => ∃ j : Nat, j ≤ nv ∧ i = .int .i64 j ∧ M1 w br p #[.slice a1 nv d1, .slice a2 na d2, .slice a3 nb d3] j wr) (fun i _ => nv - (intOf i).toNat)
  case atStart => exact ⟨0, Nat.zero_le _, rfl, hLh.out⟩
  case round =>
    obtain ⟨j, hj, rfl, xs, a, d, q, hl, K0, r0, hq, bP_0, bR_0, bE_0, hO⟩ := hrel
    clear hLh
    have oX_0 := Lib.hid hO
    have hlX := Lib.hid hl
    have zw := K0.size
    have zE := heap_lt bE_0
    have hbr := r0.lt
    clear hl hO
    have cP0 := cell_of_heap bP_0 0
    have lP := heap_lt bP_0
    by_cases hlt : j < nv
    · have cE0 := cell_of_heap bE_0 0
      have lE := heap_lt bE_0
      go_wp2_with fail
      refine wp_region_tail (k := 7) (S := fun w' => w'.cell? ⟨w.heap.size + 1 + 1, 0, none⟩ = some (.slice a j d)) (by kernel_rfl) ?_ (fun hHeld => ?_)
      · exact cE0
      clear cP0 lP cE0 lE
      have hn1 : New wr wr.drew := (Kp.refl _ _).drew
      generalize wr.drew = w1 at *
      have z1 := hn1.size
      have bP_1 := hn1.bk bP_0
      have bR_1 := hn1.bk bR_0
      have bE_1 := hn1.bk bE_0
      have oX_1 := Lib.hid (oX_0.out.new hn1)
      have K1 := K0.nw hn1
      have r1 := r0.nw hn1
      clear bP_0 bR_0 bE_0 oX_0 K0 r0 hn1
      have cE0 := cell_of_heap bE_1 0
      have lE := heap_lt bE_1
      refine AnyK.tw 0 rfl ?_
      try simp only [AP]
      refine AnyK.tk 1 rfl ?_
      try simp only [AP]
      refine AnyK.tw 2 rfl ?_
      try simp only [AP]
      refine AnyK.step (i := 3) (by kernel_rfl) rfl (fun K hK => ?_)
      go_simp
      refine (DrawV.l3Value w1 br (q) r1 (by omega)).mono ?_
      rintro e w2 ⟨x, rfl, ⟨x0, x1⟩, hn2, r2⟩
      have z2 := hn2.size
      have bP_2 := hn2.bo bP_1
      have bR_2 := hn2.bo bR_1
      have bE_2 := hn2.bo bE_1
      have oX_2 := Lib.hid (oX_1.out.kb hn2 (fun b e => by omega))
      have K2 := K1.trans hn2
      clear cE0 lE
      clear bP_1 bR_1 bE_1 oX_1 K1 r1 hn2
      have cE0 := cell_of_heap bE_2 0
      have lE := heap_lt bE_2
      refine hK.out _ _ ?_ (fun hHeld2 => ?_)
      · exact cE0
      clear hK K hHeld
      have hHeld := hHeld2
      clear hHeld2
      try simp only [AP]
      refine AnyK.step (i := 4) (by kernel_rfl) rfl (fun K hK => ?_)
      go_simp
      obtain ⟨hn3, y3, bV_3⟩ := newb w2 (.cells #[.int .i64 x] 3)
      generalize w2.alloc (.cells #[.int .i64 x] 3) = w3 at *
      have z3 := hn3.size
      have bP_3 := hn3.bk bP_2
      have bR_3 := hn3.bk bR_2
      have bE_3 := hn3.bk bE_2
      have oX_3 := Lib.hid (oX_2.out.new hn3)
      have K3 := K2.nw hn3
      have r3 := r2.nw hn3
      clear cE0 lE
      clear bP_2 bR_2 bE_2 oX_2 K2 r2 hn3
      have cE0 := cell_of_heap bE_3 0
      have lE := heap_lt bE_3
      refine hK.out _ _ ?_ (fun hHeld2 => ?_)
      · exact cE0
      clear hK K hHeld
      have hHeld := hHeld2
      clear hHeld2
      try simp only [AP]
      refine AnyK.step (i := 5) (by kernel_rfl) rfl (fun K hK => ?_)
      refine step_pushes rfl (.tmp 19) (.tmp 22) 23 rfl (w.heap.size + 3) 3 _ _ Try.underlying23 LawF.infoI rfl (by decide) (.slice a j d) xs rfl oX_3.out _ [x] rfl (FlR.one (b := w2.heap.size) fun t ht => ?_) ?_ ?_ ?_ ?_ ?_
      · obtain rfl : t = 0 := by omega
        exact cell_of_heap bV_3 0
      · intro y hy t
        rw [List.mem_singleton] at hy
        subst hy
        exact oneI _ _
      · have := hlX.out; simp; omega
      · have := hlX.out; simp; omega
      · omega
      intro v4 w4 hv4 hp4 ha4
      have hlt4 := oX_3.out.lt
      have hk4 : Kp (fun b => w.heap.size + 3 ≤ b) w3 w4 := hp4.mono fun b _ e => (hlt4 b e).1
      obtain ⟨a', d', e4, _⟩ := hv4.reads.len
      have hm4 : (xs ++ [x]).length = j + 1 := by simp [hlX.out]
      rw [hm4] at e4
      subst e4
      have oX_4 := Lib.hid hv4
      clear hlX
      have hlX := Lib.hid hm4
      clear hv4 hp4 ha4 hlt4 hm4 oX_3 bV_3
      have z4 := hk4.size
      have bP_4 := hk4.bo bP_3
      have bR_4 := hk4.bo bR_3
      have bE_4 := hk4.bo bE_3
      have K4 : One br w w4 := one_new K3 hk4 (fun b e => by omega)
      have r4 := r3.keep hk4 (fun i e => by omega)
      clear cE0 lE
      clear bP_3 bR_3 bE_3 K3 r3 hk4
      have cE0 := cell_of_heap bE_4 0
      have lE := heap_lt bE_4
      refine hK.out _ _ ?_ (fun hHeld2 => ?_)
      · exact cE0
      clear hK K hHeld
      have hHeld := hHeld2
      clear hHeld2
      try simp only [AP]
      refine AnyK.tw 6 rfl ?_
      try simp only [AP]
      refine AnyK.last (by kernel_rfl) ?_
      simp only [List.drop_succ_cons, List.drop_zero]
      clear hHeld
      clear cE0 lE
      obtain ⟨cE0, cE1⟩ := cells2 bE_4
      have fE := frozen_of_heap bE_4
      have lE := heap_lt bE_4
      have lP := heap_lt bP_4
      have kz : One (w.heap.size + 1 + 1) w4 (w4.setCell ⟨w.heap.size + 1 + 1, 0, none⟩ (.slice a' (j + 1) d')) := (Kp.refl (fun k => k = w.heap.size + 1 + 1) _).setCell (.inl rfl) _
      have zz := kz.size
      have hL : M1 w br p #[.slice a1 nv d1, .slice a2 na d2, .slice a3 nb d3] (j + 1) (w4.setCell ⟨w.heap.size + 1 + 1, 0, none⟩ (.slice a' (j + 1) d')) := ⟨xs ++ [x], a', d', q + 1, hlX.out, one_on K4 kz (by omega), r4.keep kz (fun b e => by omega), by omega, heap_set bP_4 (by omega) _, heap_set bR_4 (by omega) _, setCell_heap bE_4 _, oX_4.out.kb kz (fun b e => by omega)⟩
      have hLh := Lib.hid hL
      clear hL oX_4 K4 r4 kz bR_4 bP_4
      go_wp2
      go_roundw
      case rel => exact ⟨j + 1, by omega, by go_num, hLh.out⟩
      case measure => simp [intOf]; omega
    · obtain rfl : j = nv := by omega
      have oA_0 := Lib.hid (OwnR.of oX_0.out)
      have hL : M2 w br p #[.slice a1 j d1, .slice a2 na d2, .slice a3 nb d3] xs a d wr.heap.size j 0 wr := ⟨[], none, 0, q, rfl, K0, r0, by omega, bP_0, bR_0, bE_0, oA_0.out, MatO.nil _ _ _ _ _, by simp, Nat.le_refl _⟩
      have hLh := Lib.hid hL
      clear hL K0 r0 bP_0 bR_0 bE_0 oA_0 oX_0
      go_wp2_with fail
      clear cP0 lP
      have hs1 : w.heap.size + 3 ≤ wr.heap.size := by omega
      generalize wr.heap.size = s1 at *
      clear zE zw hbr hq hlt
      go_loopw [7] (fun i wr => ∃ m : Nat, m ≤ na ∧ i = .int .i64 m ∧ M2 w br p #[.slice a1 j d1, .slice a2 na d2, .slice a3 nb d3] xs a d s1 j m wr) (fun i _ => na - (intOf i).toNat)
      case atStart => exact ⟨0, Nat.zero_le _, rfl, hLh.out⟩
      case round =>
        obtain ⟨m, hm, rfl, yb, b, t, q, hl, K0, r0, hq, bP_0, bR_0, bE_0, hA, hM, hy, hs2⟩ := hrel
        clear hLh
        have oA_0 := Lib.hid hA
        have oM_0 := Lib.hid hM
        have hlM := Lib.hid hl
        have hyh := Lib.hid hy
        have zw := K0.size
        have zE := heap_lt bE_0
        have hbr := r0.lt
        clear hl hA hM hy
        have cP1 := cell_of_heap bP_0 1
        have lP := heap_lt bP_0
        by_cases hlt : m < na
        · obtain ⟨vs, hvs, hvl, hG⟩ := oM_0.out.growK (by omega)
          have hvl2 : vs.length = m := by rw [hvl]; exact hlM.out
          have hlX := Lib.hid hvl2
          have oX_0 := Lib.hid hvs
          have hGh := Lib.hid hG
          clear hvs hvl hvl2 hG oM_0
          go_wp2_with fail
          clear cP1 lP
          have hn1 : New wr (wr.alloc (.cells #[] 3)) := (Kp.refl _ _).alloc _
          have hE := OwnF.empty (α := Int) (n := 1) (enc := encI) wr 3 (Nat.le_refl _)
          have r1 := r0.nw hn1
          have hL : M3 wr br q 0 (.slice (some ⟨wr.heap.size, 0, none⟩) 0 0) (wr.alloc (.cells #[] 3)) := ⟨[], _, _, q, rfl, rfl, hn1.mono (fun _ _ f => f.elim), r1, Nat.le_refl _, hE⟩
          have hLh := Lib.hid hL
          clear hL hE r1 hn1
          generalize wr = wo at *
          go_loopw [8, 9] (fun v i wr => ∃ k : Nat, k ≤ 4 ∧ i = .int .i64 k ∧ M3 wo br q k v wr) (fun _ i _ => 4 - (intOf i).toNat)
          case atStart => exact ⟨0, Nat.zero_le _, rfl, hLh.out⟩
          case round =>
            obtain ⟨k, hk, rfl, ys, f, u, q3, rfl, hl3, K3, r3, hq3, hO3⟩ := hrel
            clear hLh
            have hO3h := Lib.hid hO3
            have hl3h := Lib.hid hl3
            have z3 := K3.size
            clear hO3 hl3
            by_cases hlk : k < 4
            · go_wp2_with fail
              refine (DrawV.l3Value wr br q3 r3 (by omega)).mono ?_
              rintro e w4 ⟨x, rfl, ⟨x0, x1⟩, hn4, r4⟩
              have z4 := hn4.size
              have hO4 := Lib.hid (hO3h.out.kb hn4 (fun b e => by omega))
              have K4 := K3.trans hn4
              clear hO3h hn4 r3 K3
              have hn5 : New w4 (w4.alloc (.cells #[.int .i64 x] 3)) := (Kp.refl _ _).alloc _
              have c5 : (w4.alloc (.cells #[.int .i64 x] 3)).cell? ⟨w4.heap.size, 0, none⟩ = some (.int .i64 x) := cell_of_heap (alloc_heap _ _) 0
              have y5 : w4.heap.size < (w4.alloc (.cells #[.int .i64 x] 3)).heap.size := lt_alloc _ _
              have hn5h := Lib.hid hn5
              have c5h := Lib.hid c5
              have y5h := Lib.hid y5
              clear hn5 c5 y5
              go_wp2_with (at_builtin; refine wpList_pushesN rfl _ _ 23 rfl wo.heap.size 3 _ _ Try.underlying23 LawF.infoI rfl (by decide) (.slice f k u) ys rfl (hO4.out.new hn5h.out) _ [x] rfl (FlR.one (b := w4.heap.size) fun t ht => (by have e0 : t = 0 := (by omega); subst e0; exact c5h.out)) (fun y _ _ => rfl) ?qc1 ?qc2 ?qc3 ?_)
              case qc1 => have := hl3h.out; simp; omega
              case qc2 => have := hl3h.out; simp; omega
              case qc3 => have := y5h.out; omega
              intro v6 w6 hO6 hk6 _
              have k6 : Kp (fun b => wo.heap.size ≤ b) (w4.alloc (.cells #[.int .i64 x] 3)) w6 := hk6.mono fun b _ e => (hO4.out.lt b e).1
              obtain ⟨f2, u2, e6, _⟩ := hO6.reads.len
              have hl6 : (ys ++ [x]).length = k + 1 := by simp [hl3h.out]
              rw [hl6] at e6
              subst e6
              have z6 := k6.size
              have y5 := y5h.out
              have K6 : One br wo w6 := one_new (K4.trans (hn5h.out.mono fun _ _ f => f.elim)) k6 (fun b e => e)
              have hL : M3 wo br q (k + 1) (.slice f2 (k + 1) u2) w6 := ⟨ys ++ [x], f2, u2, q3 + 1, rfl, hl6, K6, (r4.keep hn5h.out (fun _ f => f.elim)).keep k6 (fun b e => by omega), by omega, hO6⟩
              have hLh := Lib.hid hL
              clear hL hO6 hk6 hl6 hl3h hO4 K6 k6 hn5h c5h y5 y5h r4 K4
              go_wp2
              go_roundw
              case rel => exact ⟨k + 1, by omega, by go_num, hLh.out⟩
              case measure => simp [intOf]; omega
            · obtain rfl : k = 4 := by omega
              clear hlk
              have oY := hO3h
              have hn1 := K3
              have oA_1 := Lib.hid (oA_0.out.kp hn1 (fun b e => by omega))
              have oX_1 := Lib.hid (oX_0.out.kb hn1 (fun b e => by omega))
              have bP_1 := hn1.bo bP_0
              have bR_1 := hn1.bo bR_0
              have bE_1 := hn1.bo bE_0
              have K1 := K0.trans hn1
              have r1 := r3
              clear oA_0 oX_0 bP_0 bR_0 bE_0 K0 r0 r3 hO3h
              have cE1 := cell_of_heap bE_1 1
              have lE := heap_lt bE_1
              have oY_1 := oY
              clear oY
              have hnV : New wr (wr.alloc (.cells #[.slice f 4 u] 23)) := (Kp.refl _ _).alloc _
              have cV : (wr.alloc (.cells #[.slice f 4 u] 23)).cell? ⟨wr.heap.size, 0, none⟩ = some (.slice f 4 u) := cell_of_heap (alloc_heap _ _) 0
              have yV : wr.heap.size < (wr.alloc (.cells #[.slice f 4 u] 23)).heap.size := lt_alloc _ _
              have hnVh := Lib.hid hnV
              have cVh := Lib.hid cV
              have yVh := Lib.hid yV
              clear hnV cV yV
              go_wp2_with (at_builtin; refine wpList_pushesN rfl _ _ 27 rfl s1 23 _ _ Try.underlying27 MatF.infoM rfl (by decide) (.slice b m t) vs rfl (oX_1.out.new hnVh.out) _ [.slice f 4 u] rfl (FlR.one (b := wr.heap.size) fun t ht => (by have e0 : t = 0 := (by omega); subst e0; exact cVh.out)) (fun y hy t => (by rw [List.mem_singleton] at hy; subst hy; rfl)) ?qd1 ?qd2 ?qd3 ?_)
              case qd1 => have := hlX.out; simp; omega
              case qd2 => have := hlX.out; simp; omega
              case qd3 => have := yVh.out; omega
              intro v2 w2 hv2 hk2 ha2
              have hG2 := hGh.out (wr.alloc (.cells #[.slice f 4 u] 23)) w2 v2 (.slice f 4 u) ys (hn1.trans (hnVh.out.mono fun _ _ f => f.elim)) (fun b e => by omega) (oY_1.out.new hnVh.out) hk2 (by simpa using ha2) hv2
              obtain ⟨b2, t2, e2, _⟩ := hv2.reads.len
              have hm2 : (vs ++ [Value.slice f 4 u]).length = m + 1 := by simp [hlX.out]
              rw [hm2] at e2
              have k2 : Kp (fun b => s1 ≤ b) (wr.alloc (.cells #[.slice f 4 u] 23)) w2 := hk2.mono fun b _ e => (oX_1.out.lt b e).1
              subst e2
              have hG3 := Lib.hid hG2
              have z2 := k2.size
              have yV := yVh.out
              have oA_2 := Lib.hid ((oA_1.out.new (by omega) hnVh.out).kp k2 (fun b e => by omega))
              have bP_2 := (k2.block _ (by have := heap_lt bP_1; omega) (by omega)).trans (heap_new hnVh.out bP_1)
              have bR_2 := (k2.block _ (by have := heap_lt bR_1; omega) (by omega)).trans (heap_new hnVh.out bR_1)
              have bE_2 := (k2.block _ (by have := heap_lt bE_1; omega) (by omega)).trans (heap_new hnVh.out bE_1)
              have K2 := one_new (K1.trans (hnVh.out.mono fun _ _ f => f.elim)) k2 (fun b e => by omega)
              have r2 := (r1.keep hnVh.out (fun _ f => f.elim)).keep k2 (fun b e => by omega)
              clear hG2 hv2 hk2 ha2 hm2 k2 hnVh cVh yVh hGh oX_1 oY_1 oA_1 bP_1 bR_1 bE_1 K1 r1 hn1 hlX
              clear cE1 lE
              obtain ⟨cE0, cE1⟩ := cells2 bE_2
              have fE := frozen_of_heap bE_2
              have lE := heap_lt bE_2
              have kz : One (w.heap.size + 1 + 1) w2 (w2.setCell ⟨w.heap.size + 1 + 1, 1, none⟩ (.slice b2 (m + 1) t2)) := (Kp.refl (fun k => k = w.heap.size + 1 + 1) _).setCell (.inl rfl) _
              have zz := kz.size
              have hl9 : (yb ++ [ys]).length = m + 1 := by simp [hlM.out]
              have hL : M2 w br p #[.slice a1 j d1, .slice a2 na d2, .slice a3 nb d3] xs a d s1 j (m + 1) (w2.setCell ⟨w.heap.size + 1 + 1, 1, none⟩ (.slice b2 (m + 1) t2)) := ⟨yb ++ [ys], b2, t2, q3, hl9, one_on K2 kz (by omega), r2.keep kz (fun b e => by omega), by omega, heap_set bP_2 (by omega) _, heap_set bR_2 (by omega) _, setCell_heap bE_2 _, oA_2.out.kp kz (fun b e => by omega), (hG3.out.kp kz (fun b e => by omega)).mono (Nat.le_refl _) zz, (fun y hy => by
                rcases List.mem_append.1 hy with g | g
                · exact hyh.out y g
                · rw [List.mem_singleton] at g; subst g; exact hl3h.out), by omega⟩
              have hLh := Lib.hid hL
              clear hL oA_2 K2 r2 kz bR_2 bP_2 hG3 hyh hl9
              go_wp2
              go_roundw
              case rel => exact ⟨m + 1, by omega, by go_num, hLh.out⟩
              case measure => simp [intOf]; omega
        · obtain rfl : m = na := by omega
          obtain ⟨cE0, cE1⟩ := cells2 bE_0
          have lE := heap_lt bE_0
          obtain ⟨cR0, cR1⟩ := cells2 bR_0
          have fR := frozen_of_heap bR_0
          have lR := heap_lt bR_0
          go_wp2
          have hkz := setMany_kp (w.heap.size + 1) [.slice a j d, .slice b m t] wr 0
          have zs := setMany_size (w.heap.size + 1) [.slice a j d, .slice b m t] wr 0
          have hR := setMany_row [.slice a j d, .slice b m t] bR_0 rfl
          exact bodyPost_ret (results_cell_row rfl _ _ _ _ _ _ _ rfl hR Try.underlying29 rfl (by kernel_rfl)) rfl ⟨_, _, xs, yb, q, rfl, one_on K0 hkz (by omega), r0.keep hkz (fun b e => by omega), by omega, .of (lo := w.heap.size) (hi := (setMany wr (w.heap.size + 1) 0 [.slice a j d, .slice b m t]).heap.size) s1 (by omega) (by omega) ((oA_0.out.kp hkz (fun b e => by omega)).mono (by omega) (Nat.le_refl _)) ((oM_0.out.kp hkz (fun b e => by omega)).mono (Nat.le_refl _) (by omega)), by have := hlX.out; omega, by have := hlM.out; omega, fun y hy => by have := hyh.out y hy; omega⟩
theorem _root_.Go.Proofs.Ytbicpkmlionldaa.OwnF.up {α : Type} {n : Nat} {enc : α → Nat → Value} {w : World} {base base' : Nat} {T : TypeId} {v : Value} {xs : List α} (h : OwnF n enc w base T v xs) (hb : ∀ b, v.ownBlock = some b → base' ≤ b) : OwnF n enc w base' T v xs := by
  rcases h.form with ⟨e1, e2⟩ | ⟨b, cap, cs, rfl, hb1, hb2, hb3, hh, hs, hc⟩
  · subst e1; subst e2; exact OwnF.nil _ _ _
  · exact OwnF.mk' hh (hb b (by simp [Value.ownBlock])) hb2 hb3 hs hc
theorem _root_.Go.Proofs.Ytbicpkmlionldaa.MarkC.MemO.lt {w : World} {lo hi : Nat} {va vb : Value} {ya : List Int} {yb : List (List Int)} (h : MemO w lo hi va vb ya yb) (b : Nat) (hb : va.ownBlock = some b) : lo ≤ b ∧ b < hi := by
  obtain ⟨p1, p2, p3, p4, q1, q2, q3, q4, q5, A, B⟩ := h
  have := (A.own.lt b hb).1; have := A.top b hb; omega
theorem nilM (w : World) (lo hi : Nat) (h : lo ≤ hi) : MemO w lo hi (.slice none 0 0) (.slice none 0 0) [] [] := .of lo (Nat.le_refl _) h ⟨OwnF.nil _ _ _, fun b hb => by simp [Value.ownBlock] at hb⟩ (MatO.nil _ _ _ _ _)
/-- the values grow -/
theorem _root_.Go.Proofs.Ytbicpkmlionldaa.MarkC.MemO.pushed {w : World} {lo hi : Nat} {va vb : Value} {ya : List Int} {yb : List (List Int)} (h : MemO w lo hi va vb ya yb) (hh : hi ≤ w.heap.size) (hl : lo ≤ w.heap.size) :
    ∃ base, OwnF 1 encI w base 3 va ya ∧ base ≤ w.heap.size ∧ ∀ (w1 w2 : World) (v2 : Value) (xs : List Int), New w w1 → OwnF 1 encI w2 base 3 v2 xs → Kp (fun k => va.ownBlock = some k) w1 w2 → (v2.ownBlock = va.ownBlock ∨ v2.ownBlock = some w1.heap.size) → ∀ (S : Nat → Prop) (w3 : World), Kp S w2 w3 → (∀ b, S b → b < lo ∨ hi ≤ b ∧ b < w1.heap.size) → MemO w3 lo w3.heap.size v2 vb xs yb := by
  obtain ⟨p1, p2, p3, p4, q1, q2, q3, q4, q5, A, B⟩ := h
  by_cases hp : p1 ≤ w.heap.size
  · refine ⟨p1, A.own, hp, fun w1 w2 v2 xs k1 hO k2 ha S w3 k3 hS => ?_⟩
    have B2 := (B.new (by omega) k1).kp k2 fun b hb => by have := (A.own.lt b hb).1; have := A.top b hb; omega
    have z1 := k1.size
    have z2 := k2.size
    have z3 := k3.size
    have B3 := B2.kp k3 fun b hb => by have := hS b hb; omega
    rcases ha with e | e
    · have hA : OwnR 1 encI w2 p1 p2 3 v2 xs := ⟨hO, fun b hb => A.top b (e ▸ hb)⟩
      exact ⟨p1, p2, p3, p4, q1, by omega, q3, by omega, q5, hA.kp k3 fun b hb => by have := hS b hb; omega, B3⟩
    · have hA : OwnR 1 encI w2 w1.heap.size w2.heap.size 3 v2 xs := ⟨hO.up fun b hb => by rw [e] at hb; cases hb; exact Nat.le_refl _, fun b hb => (hO.lt b hb).2⟩
      exact ⟨w1.heap.size, w2.heap.size, p3, p4, by omega, z3, q3, by omega, .inr (by omega), hA.kp k3 fun b hb => by have := hS b hb; omega, B3⟩
  · -- no block at all
    rcases A.own.form with ⟨e1, e2⟩ | ⟨b, cap, cs, rfl, hb1, hb2, hb3, hh', hs, hc⟩
    · subst e1; subst e2
      refine ⟨w.heap.size, OwnF.nil _ _ _, Nat.le_refl _, fun w1 w2 v2 xs k1 hO k2 ha S w3 k3 hS => ?_⟩
      have B2 := (B.new (by omega) k1).kp k2 fun b hb => by simp [Value.ownBlock] at hb
      have z1 := k1.size
      have z2 := k2.size
      have z3 := k3.size
      have B3 := B2.kp k3 fun b hb => by have := hS b hb; omega
      rcases ha with e | e
      · have hA : OwnR 1 encI w2 w2.heap.size w2.heap.size 3 v2 xs := ⟨hO.up fun b hb => by rw [e] at hb; simp [Value.ownBlock] at hb, fun b hb => by rw [e] at hb; simp [Value.ownBlock] at hb⟩
        exact ⟨w2.heap.size, w2.heap.size, p3, p4, by omega, z3, q3, by omega, .inr (by omega), hA.kp k3 fun b hb => by omega, B3⟩
      · have hA : OwnR 1 encI w2 w1.heap.size w2.heap.size 3 v2 xs := ⟨hO.up fun b hb => by rw [e] at hb; cases hb; exact Nat.le_refl _, fun b hb => (hO.lt b hb).2⟩
        exact ⟨w1.heap.size, w2.heap.size, p3, p4, by omega, z3, q3, by omega, .inr (by omega), hA.kp k3 fun b hb => by have := hS b hb; omega, B3⟩
    · have := heap_lt hh'; omega
theorem _root_.Go.Proofs.Ytbicpkmlionldaa.MarkC.MemO.vals {w : World} {lo hi n d : Nat} {a : Option Addr} {vb : Value} {ya : List Int} {yb : List (List Int)} (h : MemO w lo hi (.slice a n d) vb ya yb) (h0 : 0 < ya.length) :
    ∃ b, a = some ⟨b, 0, none⟩ ∧ lo ≤ b ∧ b < hi ∧ (∀ i (h : i < ya.length), w.cell? ⟨b, i, none⟩ = some (.int .i64 ya[i])) ∧ (∀ i, w.frozen? ⟨b, i, none⟩ = false) ∧
      ∀ j (hj : j < ya.length) z, MemO (w.setCell ⟨b, j, none⟩ (.int .i64 z)) lo hi (.slice a n d) vb (ya.set j z) yb := by
  obtain ⟨m1, m2, m3, m4, r1, r2, r3, r4, r5, B, C⟩ := h
  obtain ⟨hn, b, rfl, hc, hf⟩ := own_cells B.own h0
  have hl := B.own.lt b (ownBlock_at _ _ _)
  have ht := B.top b (ownBlock_at _ _ _)
  exact ⟨b, rfl, by omega, by omega, hc, hf, fun j hj z => ⟨m1, m2, m3, m4, r1, r2, r3, r4, r5, OwnR_set B hn j hj z, C.kp (S := fun x => x = b) ((Kp.refl (fun x => x = b) w).setCell (.inl rfl) _) (fun x e => by omega)⟩⟩
/-- one row is cut shorter -/
theorem _root_.Go.Proofs.Ytbicpkmlionldaa.MarkC.MemO.cut {w : World} {lo hi n d : Nat} {a : Option Addr} {va : Value} {ya : List Int} {yb : List (List Int)} (h : MemO w lo hi va (.slice a n d) ya yb) (j : Nat) (hj : j < yb.length) (m : Nat) (h0 : 0 < m) (hm : m ≤ yb[j].length) :
    ∃ b s ds, a = some ⟨b, 0, none⟩ ∧ lo ≤ b ∧ b < hi ∧ w.cell? ⟨b, j, none⟩ = some (.slice (some ⟨s, 0, none⟩) yb[j].length ds) ∧ yb[j].length ≤ ds ∧ ds ≤ maxLen ∧ (∀ i, w.frozen? ⟨b, i, none⟩ = false) ∧
      MemO (w.setCell ⟨b, j, none⟩ (.slice (some ⟨s, 0, none⟩) m ds)) lo hi va (.slice a n d) ya (yb.set j (yb[j].take m)) := by
  obtain ⟨m1, m2, m3, m4, r1, r2, r3, r4, r5, B, vs, C1, C2, C3, C4⟩ := h
  have hlv := C2.len
  have hjv : j < vs.length := by omega
  rcases C1.own.form with ⟨e, _⟩ | ⟨b, cap, cs, e, hb1, hb2, hb3, hh, hs, hc⟩
  · subst e; exact absurd hjv (Nat.not_lt_zero _)
  · cases e
    have hrow := C2.own j hjv hj
    have hbt := C1.top b (ownBlock_at _ _ _)
    have hcj := hc j hjv 0 (by omega)
    rw [Nat.mul_one, Nat.add_zero] at hcj
    rcases hrow.form with ⟨e, _⟩ | ⟨s, ds, ss, e, hs1, hs2, hs3, hsh, hss, hsc⟩
    · rw [e] at hm; simp at hm; omega
    · have hsb : vs[j].ownBlock = some s := by rw [e]; simp [Value.ownBlock]
      have hne := C4 vs[j] (List.getElem_mem hjv) b (ownBlock_at _ _ _)
      have hne2 : s ≠ b := fun q => hne (by rw [hsb, q])
      have kk : Kp (fun x => x = b) w (w.setCell ⟨b, j, none⟩ (.slice (some ⟨s, 0, none⟩) m ds)) := (Kp.refl (fun x => x = b) w).setCell (.inl rfl) _
      refine ⟨b, s, ds, rfl, by omega, by omega, (cell_of_heap hh j).trans (by rw [hcj]; exact congrArg some e), hs2, hs3, fun i => frozen_of_heap hh i, m1, m2, m3, m4, r1, r2, r3, r4, r5, B.kp kk (fun x q => by omega), vs.set j (.slice (some ⟨s, 0, none⟩) m ds), ⟨?_, fun c q => C1.top c q⟩, ⟨by simp [hlv], fun i hi h' => ?_, ?_⟩, ?_, ?_⟩
      · have := C1.own.set1 (enc := encV) j hjv (.slice (some ⟨s, 0, none⟩) m ds)
        exact this
      · have h1 : i < vs.length := by simpa using hi
        have h2 : i < yb.length := by simpa using h'
        by_cases q : j = i
        · subst q
          rw [List.getElem_set_self, List.getElem_set_self]
          have hl : (yb[j].take m).length = m := by rw [List.length_take]; omega
          have := OwnF.mk' (enc := encI) (n := 1) (xs := yb[j].take m) (base := m3) ((kk.block s (heap_lt hsh) hne2).trans hsh) hs1 (by rw [hl]; omega) hs3 hss (fun i hi t ht => by
            have hi2 : i < yb[j].length := by rw [hl] at hi; omega
            rw [List.getElem_take]; exact hsc i hi2 t ht)
          rw [hl] at this; exact this
        · rw [List.getElem_set_ne q, List.getElem_set_ne q]
          exact (C2.own i h1 h2).kp kk fun c hc1 hc2 => C4 vs[i] (List.getElem_mem h1) b (ownBlock_at _ _ _) (by rw [hc1, hc2])
      · rw [List.pairwise_iff_getElem]
        intro i k hi hk hik c hc1 hc2
        have hi1 : i < vs.length := by simpa using hi
        have hk1 : k < vs.length := by simpa using hk
        have conv : ∀ q (hq : q < vs.length) c, ((vs.set j (.slice (some ⟨s, 0, none⟩) m ds))[q]'(by simpa using hq)).ownBlock = some c → vs[q].ownBlock = some c := by
          intro q hq c hqc
          by_cases e2 : j = q
          · subst e2
            rw [List.getElem_set_self] at hqc
            rw [hsb]; rw [← hqc]; simp [Value.ownBlock]
          · rwa [List.getElem_set_ne e2] at hqc
        exact List.pairwise_iff_getElem.1 C2.apart i k hi1 hk1 hik c (conv i hi1 c hc1) (conv k hk1 c hc2)
      · intro x hx c hcx
        rcases List.mem_or_eq_of_mem_set hx with q | q
        · exact C3 x q c hcx
        · subst q
          refine C3 vs[j] (List.getElem_mem hjv) c ?_
          rw [hsb, ← hcx]; simp [Value.ownBlock]
      · intro x hx c hcv hcx
        rcases List.mem_or_eq_of_mem_set hx with q | q
        · exact C4 x q c hcv hcx
        · subst q
          refine C4 vs[j] (List.getElem_mem hjv) c hcv ?_
          rw [hsb, ← hcx]; simp [Value.ownBlock]
set_option maxHeartbeats 16000000 in
set_option maxRecDepth 100000 in
theorem l3Bend (w : World) (br p n m lo hi : Nat) (va vb : Value) (ya : List Int) (yb : List (List Int)) (h : Rd w br p) (sa : IntsR w lo hi va ya) (sb : MatR w lo hi vb yb) (hh : hi ≤ w.heap.size) (hn : ya.length ≤ n) (hm : yb.length ≤ m) (hn2 : n ≤ 1000000) (hm2 : m ≤ 1000000) (hr : ∀ y ∈ yb, 3 ≤ y.length ∧ y.length ≤ 4) (hp : p + 10 < 1099511627776) :
    Calls Try.prog 35 #[.pointer (some ⟨br, 0, none⟩), .agg #[va, vb]] w (GotM w br p 2 (n + 1) m) := by
  obtain ⟨a1, d1, rfl, l1⟩ := sa.len
  obtain ⟨a2, d2, rfl, l2⟩ := sb.len
  have hbl := h.lt
  go_enter Try.func35, Try.ntmps35
  go_upto_region 1 with fail
  have N0 : New w ((w.alloc (.cells #[.slice a1 ya.length d1, .slice a2 yb.length d2] 29)).alloc (.cells #[.slice none 0 0, .slice none 0 0] 29)) := ((Kp.refl _ _).alloc _).alloc _
  have bP_0 : ((w.alloc (.cells #[.slice a1 ya.length d1, .slice a2 yb.length d2] 29)).alloc (.cells #[.slice none 0 0, .slice none 0 0] 29)).heap[w.heap.size]? = some (.cells #[.slice a1 ya.length d1, .slice a2 yb.length d2] 29) := heap_old (alloc_heap _ _)
  have bR_0 : ((w.alloc (.cells #[.slice a1 ya.length d1, .slice a2 yb.length d2] 29)).alloc (.cells #[.slice none 0 0, .slice none 0 0] 29)).heap[w.heap.size + 1]? = some (.cells #[.slice none 0 0, .slice none 0 0] 29) := heap_at (by simp)
  have z0 : w.heap.size + 1 < ((w.alloc (.cells #[.slice a1 ya.length d1, .slice a2 yb.length d2] 29)).alloc (.cells #[.slice none 0 0, .slice none 0 0] 29)).heap.size := by simp
  generalize ((w.alloc (.cells #[.slice a1 ya.length d1, .slice a2 yb.length d2] 29)).alloc (.cells #[.slice none 0 0, .slice none 0 0] 29)) = w0 at *
  have r0 := h.nw N0
  have K0 : One br w w0 := N0.mono (fun _ _ f => f.elim)
  have oA_0 := Lib.hid (sa.new hh N0)
  have oB_0 := Lib.hid (sb.new hh N0)
  clear N0 h sa sb
  obtain ⟨cP0, cP1⟩ := cells2 bP_0
  have lP := heap_lt bP_0
  go_wp2_with fail
  clear cP0 cP1 lP
  refine (CopyM.l3Copy w0 lo hi _ _ ya yb oA_0.out oB_0.out (by omega) (by omega) (by omega) (fun y hy => by have := hr y hy; omega)).mono ?_
  rintro e w1 ⟨ua, ub, rfl, hn1, hM⟩
  have z1 := hn1.size
  have bP_1 := hn1.bk bP_0
  have bR_1 := hn1.bk bR_0
  have oA_1 := Lib.hid (oA_0.out.new (by omega) hn1)
  have oB_1 := Lib.hid (oB_0.out.new (by omega) hn1)
  have K1 := K0.nw hn1
  have r1 := r0.nw hn1
  clear bP_0 bR_0 oA_0 oB_0 K0 r0 hn1
  obtain ⟨⟨a3, d3, rfl⟩, a4, d4, rfl⟩ := hM.lens
  have oM_1 := Lib.hid hM
  have hrh := Lib.hid hr
  have hnh := Lib.hid hn
  have hmh := Lib.hid hm
  clear hM hr hn hm oA_1 oB_1 bP_1
  have hs1 : w0.heap.size ≤ w1.heap.size := z1
  obtain ⟨hn2a, y2a, bE_2⟩ := newb w1 (.cells #[.slice a3 ya.length d3, .slice a4 yb.length d4] 29)
  go_wp2_with fail
  generalize hw2 : w1.alloc (.cells #[.slice a3 ya.length d3, .slice a4 yb.length d4] 29) = w2 at *
  clear hw2
  have z2 := hn2a.size
  have bR_2 := hn2a.bk bR_1
  have oM_2 := Lib.hid (oM_1.out.new (by omega) hn2a)
  have K2 := K1.nw hn2a
  have r2 := r1.nw hn2a
  clear bR_1 oM_1 K1 r1 hn2a
  have hbr := r2.lt
  have hlo2 : w0.heap.size ≤ w1.heap.size := z1
  refine (pick w2 br (p) _ r2 (by omega)).mono ?_
  rintro e w3 ⟨x, rfl, x0, x1, x2, hn3, r3⟩
  have z3 := hn3.size
  have bR_3 := hn3.bo bR_2
  have bE_3 := hn3.bo bE_2
  have oM_3 := Lib.hid (oM_2.out.kp hn3 (fun b e => by omega))
  have K3 := K2.trans hn3
  clear bR_2 bE_2 oM_2 K2 r2 hn3
  have x60 : x < 60 := x1 (by omega)
  clear x1 x2
  by_cases hx0 : x = 0
  · subst hx0
    obtain ⟨cE0, cE1⟩ := cells2 bE_3
    have fE := frozen_of_heap bE_3
    have lE := heap_lt bE_3
    obtain ⟨base, hO, hbase, hG⟩ := oM_3.out.pushed (by omega) (by omega)
    have hOh := Lib.hid hO
    have hGh := Lib.hid hG
    have hnV : New w3 (w3.alloc (.cells #[.int .i64 0] 3)) := (Kp.refl _ _).alloc _
    have cV : (w3.alloc (.cells #[.int .i64 0] 3)).cell? ⟨w3.heap.size, 0, none⟩ = some (.int .i64 0) := cell_of_heap (alloc_heap _ _) 0
    have yV : w3.heap.size < (w3.alloc (.cells #[.int .i64 0] 3)).heap.size := lt_alloc _ _
    have hnVh := Lib.hid hnV
    have cVh := Lib.hid cV
    have yVh := Lib.hid yV
    clear hnV cV yV hO hG
    go_wp2_with (at_builtin; refine wpList_pushesN rfl _ _ 23 rfl base 3 _ _ Try.underlying23 LawF.infoI rfl (by decide) (.slice a3 ya.length d3) ya rfl (hOh.out.new hnVh.out) _ [0] rfl (FlR.one (b := w3.heap.size) fun t ht => (by have e0 : t = 0 := (by omega); subst e0; exact cVh.out)) (fun y hy t => rfl) ?qd1 ?qd2 ?qd3 ?_)
    case qd1 => have := hnh.out; simp; omega
    case qd2 => have := hnh.out; simp; omega
    case qd3 => have := yVh.out; omega
    intro v2 w2 hv2 hk2 ha2
    have hG2 := hGh.out _ w2 v2 (ya ++ [0]) hnVh.out hv2 hk2 (by simpa using ha2)
    obtain ⟨a5, d5, e2, _⟩ := hv2.reads.len
    have hm2 : (ya ++ [(0 : Int)]).length = ya.length + 1 := by simp
    have hm3 : (ya ++ [(0 : Int)]).length ≤ n + 1 := by have := hnh.out; omega
    rw [hm2] at e2
    have k2 : Kp (fun b => (.slice a3 ya.length d3 : Value).ownBlock = some b) (w3.alloc (.cells #[.int .i64 0] 3)) w2 := hk2
    subst e2
    have hG3 := Lib.hid hG2
    have z2 := k2.size
    have yV := yVh.out
    have bR_2 := (k2.block _ (by have := heap_lt bR_3; omega) (fun e => by have := oM_3.out.lt _ e; omega)).trans (heap_new hnVh.out bR_3)
    have bE_2 := (k2.block _ (by have := heap_lt bE_3; omega) (fun e => by have := oM_3.out.lt _ e; omega)).trans (heap_new hnVh.out bE_3)
    have K2 := one_new (K3.trans (hnVh.out.mono fun _ _ f => f.elim)) k2 (fun b e => by have := oM_3.out.lt _ e; omega)
    have r2 := (r3.keep hnVh.out (fun _ f => f.elim)).keep k2 (fun b e => by have := oM_3.out.lt _ e; omega)
    clear cE0 cE1 fE lE
    clear hG2 hv2 hk2 ha2 hm2 k2 hnVh cVh yVh hGh hOh oM_3 bR_3 bE_3 K3 r3
    obtain ⟨cE0, cE1⟩ := cells2 bE_2
    have fE := frozen_of_heap bE_2
    have lE := heap_lt bE_2
    go_upto_region 13 with fail
    have hk3 : Kp (fun k => k = w1.heap.size) w2 (w2.setCell ⟨w1.heap.size, 0, none⟩ (.slice a5 (ya.length + 1) d5)) := (Kp.setCell (Kp.refl (fun k => k = w1.heap.size) _) (.inl rfl) _)
    have bE_3 : (w2.setCell ⟨w1.heap.size, 0, none⟩ (.slice a5 (ya.length + 1) d5)).heap[w1.heap.size]? = some (.cells #[.slice a5 (ya.length + 1) d5, .slice a4 yb.length d4] 29) := (setCell_heap bE_2 _)
    generalize (w2.setCell ⟨w1.heap.size, 0, none⟩ (.slice a5 (ya.length + 1) d5)) = w3 at *
    have hk3h := hk3
    have z3 := hk3.size
    have bR_3 := hk3.bo bR_2
    have K3 : One br w w3 := one_on K2 hk3 (by omega)
    have r3 := r2.kp hk3
    clear cE0 cE1 fE lE
    clear bR_2 bE_2 K2 r2 hk3
    have oM_3 := Lib.hid (hG3.out _ _ hk3h (fun b e => by omega))
    obtain ⟨cE0, cE1⟩ := cells2 bE_3
    have lE := heap_lt bE_3
    obtain ⟨cR0, cR1⟩ := cells2 bR_3
    have fR := frozen_of_heap bR_3
    have lR := heap_lt bR_3
    go_wp2
    have hkz := setMany_kp (w.heap.size + 1) [.slice a5 (ya.length + 1) d5, .slice a4 yb.length d4] w3 0
    have zs := setMany_size (w.heap.size + 1) [.slice a5 (ya.length + 1) d5, .slice a4 yb.length d4] w3 0
    have hR := setMany_row [.slice a5 (ya.length + 1) d5, .slice a4 yb.length d4] bR_3 rfl
    exact bodyPost_ret (results_cell_row rfl _ _ _ _ _ _ _ rfl hR Try.underlying29 rfl (by kernel_rfl)) rfl ⟨_, _, _, _, _, rfl, one_on K3 hkz (by omega), r3.keep hkz (fun b e => by omega), by omega, (oM_3.out.kp hkz (fun b e => by omega)).mono (lo' := w.heap.size) (hi' := (setMany w3 (w.heap.size + 1) 0 [.slice a5 (ya.length + 1) d5, .slice a4 yb.length d4]).heap.size) (by omega) (by omega), by omega, by have := hmh.out; omega, hrh.out⟩
  · have hx0b : (x == 0) = false := by simpa using hx0
    by_cases hx1 : x = 1
    · subst hx1
      by_cases hl : 0 < ya.length
      obtain ⟨cE0, cE1⟩ := cells2 bE_3
      have fE := frozen_of_heap bE_3
      have lE := heap_lt bE_3
      · clear cE0 cE1 fE lE
        obtain ⟨g, rfl, g1, g2, _⟩ := oM_3.out.vals hl
        obtain ⟨cE0, cE1⟩ := cells2 bE_3
        have fE := frozen_of_heap bE_3
        have lE := heap_lt bE_3
        go_wp2_with fail
        refine wp_region_tail (k := 6) (S := fun w' => w'.cell? ⟨w1.heap.size, 0, none⟩ = some (.slice (some ⟨g, 0, none⟩) ya.length d3)) (by kernel_rfl) ?_ (fun hHeld => ?_)
        · exact cE0
        clear cE0 cE1 fE lE
        have hn4 : New w3 w3.drew := (Kp.refl _ _).drew
        generalize w3.drew = w4 at *
        have z4 := hn4.size
        have bR_4 := hn4.bk bR_3
        have bE_4 := hn4.bk bE_3
        have oM_4 := Lib.hid (oM_3.out.new (by omega) hn4)
        have K4 := K3.nw hn4
        have r4 := r3.nw hn4
        clear bR_3 bE_3 oM_3 K3 r3 hn4
        have cE0 := cell_of_heap bE_4 0
        have lE := heap_lt bE_4
        refine AnyK.tw 0 rfl ?_
        try simp only [AP]
        refine AnyK.tk 1 rfl ?_
        try simp only [AP]
        refine AnyK.tw 2 rfl ?_
        try simp only [AP]
        refine AnyK.step (i := 3) (by kernel_rfl) rfl (fun K hK => ?_)
        go_simp
        obtain ⟨hn5, y5, bN_5⟩ := newb w4 (.cells #[.int .i64 (-1), .int .i64 256, .int .i64 9223372036854775807] 3)
        generalize w4.alloc (.cells #[.int .i64 (-1), .int .i64 256, .int .i64 9223372036854775807] 3) = w5 at *
        have z5 := hn5.size
        have bR_5 := hn5.bk bR_4
        have bE_5 := hn5.bk bE_4
        have oM_5 := Lib.hid (oM_4.out.new (by omega) hn5)
        have K5 := K4.nw hn5
        have r5 := r4.nw hn5
        clear cE0 lE
        clear bR_4 bE_4 oM_4 K4 r4 hn5
        have cE0 := cell_of_heap bE_5 0
        have lE := heap_lt bE_5
        refine hK.out _ _ ?_ (fun hHeld2 => ?_)
        · exact cE0
        clear hK K hHeld
        have hHeld := hHeld2
        clear hHeld2
        try simp only [AP]
        refine AnyK.step (i := 4) (by kernel_rfl) rfl (fun K hK => ?_)
        go_simp
        have hNc := Lib.hid (fun i : Nat => cell_of_heap bN_5 i)
        have hNl := heap_lt bN_5
        have hNr := r5.lt
        refine (num w5 br (p + 1) (w4.heap.size) 3 _ (fun x => -1 ≤ x ∧ x ≤ 9223372036854775807) r5 (by omega) (by omega) (by omega) (by omega) ?_).mono ?_
        · intro i hi
          have hi2 := hNc.out i
          match i, hi with
          | 0, _ => exact ⟨_, by decide, hi2⟩
          | 1, _ => exact ⟨_, by decide, hi2⟩
          | 2, _ => exact ⟨_, by decide, hi2⟩
        rintro e w6 ⟨y, rfl, ⟨y0, y1⟩, hn6, r6⟩
        clear hNc hNl hNr bN_5
        have z6 := hn6.size
        have bR_6 := hn6.bo bR_5
        have bE_6 := hn6.bo bE_5
        have oM_6 := Lib.hid (oM_5.out.kp hn6 (fun b e => by omega))
        have K6 := K5.trans hn6
        clear cE0 lE
        clear bR_5 bE_5 oM_5 K5 r5 hn6
        have cE0 := cell_of_heap bE_6 0
        have lE := heap_lt bE_6
        refine hK.out _ _ ?_ (fun hHeld2 => ?_)
        · exact cE0
        clear hK K hHeld
        have hHeld := hHeld2
        clear hHeld2
        try simp only [AP]
        refine AnyK.tw 5 rfl ?_
        try simp only [AP]
        refine AnyK.last (by kernel_rfl) ?_
        simp only [List.drop_succ_cons, List.drop_zero]
        clear hHeld
        clear cE0 lE
        obtain ⟨_, ge, _, _, gc, gf, gs⟩ := oM_6.out.vals hl
        cases ge
        have gc0 := gc 0 hl
        have gf0 := gf 0
        have gsh := Lib.hid (gs 0 hl y)
        clear gs gc gf
        obtain ⟨cE0, cE1⟩ := cells2 bE_6
        have fE := frozen_of_heap bE_6
        have lE := heap_lt bE_6
        go_upto_region 13 with fail
        have hk7 : Kp (fun b => b = g) w6 (w6.setCell ⟨g, 0, none⟩ (.int .i64 y)) := (Kp.refl (fun b => b = g) _).setCell (.inl rfl) _
        have oM_7 := gsh
        have hgl : (ya.set 0 y).length = ya.length := by simp
        generalize (w6.setCell ⟨g, 0, none⟩ (.int .i64 y)) = w7 at *
        clear gc0 gf0 gsh
        have z7 := hk7.size
        have bR_7 := hk7.bo bR_6
        have bE_7 := hk7.bo bE_6
        have K7 : One br w w7 := one_on K6 hk7 (by omega)
        have r7 := r6.kp hk7
        clear cE0 cE1 fE lE
        clear bR_6 bE_6 K6 r6 hk7
        clear oM_6
        obtain ⟨cE0, cE1⟩ := cells2 bE_7
        have lE := heap_lt bE_7
        obtain ⟨cR0, cR1⟩ := cells2 bR_7
        have fR := frozen_of_heap bR_7
        have lR := heap_lt bR_7
        go_wp2
        have hkz := setMany_kp (w.heap.size + 1) [.slice (some ⟨g, 0, none⟩) ya.length d3, .slice a4 yb.length d4] w7 0
        have zs := setMany_size (w.heap.size + 1) [.slice (some ⟨g, 0, none⟩) ya.length d3, .slice a4 yb.length d4] w7 0
        have hR := setMany_row [.slice (some ⟨g, 0, none⟩) ya.length d3, .slice a4 yb.length d4] bR_7 rfl
        exact bodyPost_ret (results_cell_row rfl _ _ _ _ _ _ _ rfl hR Try.underlying29 rfl (by kernel_rfl)) rfl ⟨_, _, _, _, _, rfl, one_on K7 hkz (by omega), r7.keep hkz (fun b e => by omega), by omega, (oM_7.out.kp hkz (fun b e => by omega)).mono (lo' := w.heap.size) (hi' := (setMany w7 (w.heap.size + 1) 0 [.slice (some ⟨g, 0, none⟩) ya.length d3, .slice a4 yb.length d4]).heap.size) (by omega) (by omega), by have := hnh.out; omega, by have := hmh.out; omega, hrh.out⟩
      · skip
        obtain ⟨cE0, cE1⟩ := cells2 bE_3
        have lE := heap_lt bE_3
        obtain ⟨cR0, cR1⟩ := cells2 bR_3
        have fR := frozen_of_heap bR_3
        have lR := heap_lt bR_3
        go_wp2
        have hkz := setMany_kp (w.heap.size + 1) [.slice a3 ya.length d3, .slice a4 yb.length d4] w3 0
        have zs := setMany_size (w.heap.size + 1) [.slice a3 ya.length d3, .slice a4 yb.length d4] w3 0
        have hR := setMany_row [.slice a3 ya.length d3, .slice a4 yb.length d4] bR_3 rfl
        exact bodyPost_ret (results_cell_row rfl _ _ _ _ _ _ _ rfl hR Try.underlying29 rfl (by kernel_rfl)) rfl ⟨_, _, _, _, _, rfl, one_on K3 hkz (by omega), r3.keep hkz (fun b e => by omega), by omega, (oM_3.out.kp hkz (fun b e => by omega)).mono (lo' := w.heap.size) (hi' := (setMany w3 (w.heap.size + 1) 0 [.slice a3 ya.length d3, .slice a4 yb.length d4]).heap.size) (by omega) (by omega), by have := hnh.out; omega, by have := hmh.out; omega, hrh.out⟩
    · have hx1b : (x == 1) = false := by simpa using hx1
      by_cases hx2 : x = 2
      · subst hx2
        by_cases hl : 0 < yb.length
        · have hr0 := hrh.out _ (List.getElem_mem (l := yb) (n := 0) hl)
          obtain ⟨g, s, ds, rfl, g1, g2, gc, gs1, gs2, gf, gm⟩ := oM_3.out.cut 0 hl 3 (by omega) (by omega)
          have gs3 : (3 : Int) ≤ ds := by omega
          clear gm gf
          obtain ⟨cE0, cE1⟩ := cells2 bE_3
          have fE := frozen_of_heap bE_3
          have lE := heap_lt bE_3
          go_wp2_with fail
          refine wp_region_tail (k := 8) (S := fun w' => w'.cell? ⟨w1.heap.size, 1, none⟩ = some (.slice (some ⟨g, 0, none⟩) yb.length d4) ∧ w'.cell? ⟨g, 0, none⟩ = some (.slice (some ⟨s, 0, none⟩) yb[0].length ds)) (by kernel_rfl) ?_ (fun hHeld => ?_)
          · exact ⟨cE1, gc⟩
          have hn4 : New w3 w3.drew := (Kp.refl _ _).drew
          have gc3 : w3.drew.cell? ⟨g, 0, none⟩ = some (.slice (some ⟨s, 0, none⟩) yb[0].length ds) := gc
          generalize w3.drew = w4 at *
          have z4 := hn4.size
          have bR_4 := hn4.bk bR_3
          have bE_4 := hn4.bk bE_3
          have oM_4 := Lib.hid (oM_3.out.new (by omega) hn4)
          have K4 := K3.nw hn4
          have r4 := r3.nw hn4
          clear cE0 cE1 fE lE
          clear bR_3 bE_3 oM_3 K3 r3 hn4
          refine AnyK.tw 0 rfl ?_
          try simp only [AP]
          refine AnyK.tk 1 rfl ?_
          try simp only [AP]
          refine AnyK.tw 2 rfl ?_
          try simp only [AP]
          refine AnyK.tk 3 rfl ?_
          try simp only [AP]
          refine AnyK.tw 4 rfl ?_
          try simp only [AP]
          refine AnyK.tk 5 rfl ?_
          try simp only [AP]
          refine AnyK.tw 6 rfl ?_
          try simp only [AP]
          refine AnyK.tw 7 rfl ?_
          try simp only [AP]
          refine AnyK.last (by kernel_rfl) ?_
          simp only [List.drop_succ_cons, List.drop_zero]
          clear hHeld
          obtain ⟨_, _, _, ge, _, _, gc2, _, _, gf, gm⟩ := oM_4.out.cut 0 hl 3 (by omega) (by omega)
          cases ge
          cases gc2.symm.trans gc3
          have gf0 := gf 0
          have gmh := Lib.hid gm
          clear gm gf
          obtain ⟨cE0, cE1⟩ := cells2 bE_4
          have fE := frozen_of_heap bE_4
          have lE := heap_lt bE_4
          go_upto_region 13 with fail
          have hk5 : Kp (fun b => b = g) w4 (w4.setCell ⟨g, 0, none⟩ (.slice (some ⟨s, 0, none⟩) 3 ds)) := (Kp.refl (fun b => b = g) _).setCell (.inl rfl) _
          have oM_5 := gmh
          have hgl : (yb.set 0 (yb[0].take 3)).length = yb.length := by simp
          have hgr : ∀ y ∈ yb.set 0 (yb[0].take 3), 3 ≤ y.length ∧ y.length ≤ 4 := fun y hy => by
            rcases List.mem_or_eq_of_mem_set hy with q | q
            · exact hrh.out y q
            · subst q; simp; omega
          generalize (w4.setCell ⟨g, 0, none⟩ (.slice (some ⟨s, 0, none⟩) 3 ds)) = w5 at *
          clear gc2 gf0 gmh
          have z5 := hk5.size
          have bR_5 := hk5.bo bR_4
          have bE_5 := hk5.bo bE_4
          have K5 : One br w w5 := one_on K4 hk5 (by omega)
          have r5 := r4.kp hk5
          clear cE0 cE1 fE lE
          clear bR_4 bE_4 K4 r4 hk5
          clear oM_4
          obtain ⟨cE0, cE1⟩ := cells2 bE_5
          have lE := heap_lt bE_5
          obtain ⟨cR0, cR1⟩ := cells2 bR_5
          have fR := frozen_of_heap bR_5
          have lR := heap_lt bR_5
          go_wp2
          have hkz := setMany_kp (w.heap.size + 1) [.slice a3 ya.length d3, .slice (some ⟨g, 0, none⟩) yb.length d4] w5 0
          have zs := setMany_size (w.heap.size + 1) [.slice a3 ya.length d3, .slice (some ⟨g, 0, none⟩) yb.length d4] w5 0
          have hR := setMany_row [.slice a3 ya.length d3, .slice (some ⟨g, 0, none⟩) yb.length d4] bR_5 rfl
          exact bodyPost_ret (results_cell_row rfl _ _ _ _ _ _ _ rfl hR Try.underlying29 rfl (by kernel_rfl)) rfl ⟨_, _, _, _, _, rfl, one_on K5 hkz (by omega), r5.keep hkz (fun b e => by omega), by omega, (oM_5.out.kp hkz (fun b e => by omega)).mono (lo' := w.heap.size) (hi' := (setMany w5 (w.heap.size + 1) 0 [.slice a3 ya.length d3, .slice (some ⟨g, 0, none⟩) yb.length d4]).heap.size) (by omega) (by omega), by have := hnh.out; omega, by have := hmh.out; omega, hgr⟩
        · obtain ⟨cE0, cE1⟩ := cells2 bE_3
          have lE := heap_lt bE_3
          obtain ⟨cR0, cR1⟩ := cells2 bR_3
          have fR := frozen_of_heap bR_3
          have lR := heap_lt bR_3
          go_wp2
          have hkz := setMany_kp (w.heap.size + 1) [.slice a3 ya.length d3, .slice a4 yb.length d4] w3 0
          have zs := setMany_size (w.heap.size + 1) [.slice a3 ya.length d3, .slice a4 yb.length d4] w3 0
          have hR := setMany_row [.slice a3 ya.length d3, .slice a4 yb.length d4] bR_3 rfl
          exact bodyPost_ret (results_cell_row rfl _ _ _ _ _ _ _ rfl hR Try.underlying29 rfl (by kernel_rfl)) rfl ⟨_, _, _, _, _, rfl, one_on K3 hkz (by omega), r3.keep hkz (fun b e => by omega), by omega, (oM_3.out.kp hkz (fun b e => by omega)).mono (lo' := w.heap.size) (hi' := (setMany w3 (w.heap.size + 1) 0 [.slice a3 ya.length d3, .slice a4 yb.length d4]).heap.size) (by omega) (by omega), by have := hnh.out; omega, by have := hmh.out; omega, hrh.out⟩
      · have hx2b : (x == 2) = false := by simpa using hx2
        by_cases hx3 : x = 3
        · subst hx3
          obtain ⟨cR0, cR1⟩ := cells2 bR_3
          have fR := frozen_of_heap bR_3
          have lR := heap_lt bR_3
          go_wp2
          have hkz := setMany_kp (w.heap.size + 1) [.slice none 0 0, .slice none 0 0] w3 0
          have zs := setMany_size (w.heap.size + 1) [.slice none 0 0, .slice none 0 0] w3 0
          have hR := setMany_row [.slice none 0 0, .slice none 0 0] bR_3 rfl
          exact bodyPost_ret (results_cell_row rfl _ _ _ _ _ _ _ rfl hR Try.underlying29 rfl (by kernel_rfl)) rfl ⟨_, _, [], [], _, rfl, one_on K3 hkz (by omega), r3.keep hkz (fun b e => by omega), by omega, nilM _ (w.heap.size) ((setMany w3 (w.heap.size + 1) 0 [.slice none 0 0, .slice none 0 0]).heap.size) (by omega), by simp, by simp, by simp⟩
        · have hx3b : (x == 3) = false := by simpa using hx3
          obtain ⟨cE0, cE1⟩ := cells2 bE_3
          have lE := heap_lt bE_3
          obtain ⟨cR0, cR1⟩ := cells2 bR_3
          have fR := frozen_of_heap bR_3
          have lR := heap_lt bR_3
          go_wp2
          have hkz := setMany_kp (w.heap.size + 1) [.slice a3 ya.length d3, .slice a4 yb.length d4] w3 0
          have zs := setMany_size (w.heap.size + 1) [.slice a3 ya.length d3, .slice a4 yb.length d4] w3 0
          have hR := setMany_row [.slice a3 ya.length d3, .slice a4 yb.length d4] bR_3 rfl
          exact bodyPost_ret (results_cell_row rfl _ _ _ _ _ _ _ rfl hR Try.underlying29 rfl (by kernel_rfl)) rfl ⟨_, _, _, _, _, rfl, one_on K3 hkz (by omega), r3.keep hkz (fun b e => by omega), by omega, (oM_3.out.kp hkz (fun b e => by omega)).mono (lo' := w.heap.size) (hi' := (setMany w3 (w.heap.size + 1) 0 [.slice a3 ya.length d3, .slice a4 yb.length d4]).heap.size) (by omega) (by omega), by have := hnh.out; omega, by have := hmh.out; omega, hrh.out⟩
end Go.Proofs.Ytbicpkmlionldaa.DrawM
