/- Draws of states of a machine. Condition: fewer than 2^40 picks so far. -/
import Derived.Test.YtljokgoghphgdaaWDrawD
import Derived.Test.YtljokgoghphgdaaWP4
import Derived.Test.YtljokgoghphgdaaWP1
namespace Go.Proofs.Ytljokgoghphgdaa.DrawN
open Go.RowKit Kit Draw DrawX MarkC
set_option linter.unusedVariables false
theorem _root_.Go.Proofs.Ytljokgoghphgdaa.OwnF.cap {α : Type} {n : Nat} {enc : α → Nat → Value} {w : World} {base g m d : Nat} {T : TypeId} {xs : List α} (h : OwnF n enc w base T (.slice (some ⟨g, 0, none⟩) m d) xs) : xs.length ≤ d ∧ d ≤ maxLen := by
  rcases h.form with ⟨_, e⟩ | ⟨b, cap, cs, e, hb, hl, hm, _⟩
  · cases e
  · cases e; exact ⟨hl, hm⟩
theorem _root_.Go.Proofs.Ytljokgoghphgdaa.OwnF.take {α : Type} {n : Nat} {enc : α → Nat → Value} {w : World} {base g d : Nat} {T : TypeId} {xs : List α} (h : OwnF n enc w base T (.slice (some ⟨g, 0, none⟩) xs.length d) xs) (m : Nat) (hm : m ≤ xs.length) : OwnF n enc w base T (.slice (some ⟨g, 0, none⟩) m d) (xs.take m) := by
  rcases h.form with ⟨_, e⟩ | ⟨b, cap, cs, e, hb, hl, hmx, hh, hs, hc⟩
  · cases e
  · cases e
    have e2 : (xs.take m).length = m := by rw [List.length_take]; omega
    have := OwnF.mk' (enc := enc) (n := n) (xs := xs.take m) (base := base) hh hb (by omega) hmx hs (fun i hi t ht => by
      have hi2 : i < xs.length := by omega
      rw [List.getElem_take]; exact hc i hi2 t ht)
    rw [e2] at this; exact this
/-- a state drawn by at most c picks -/
def GotN (w : World) (br p c n m : Nat) (e : Ending) (w' : World) : Prop := ∃ (pc : Int) (vr va vb : Value) (yr ya : List Int) (yb : List (List Int)) (q : Nat), e = .returned (.agg #[.int .i64 pc, vr, va, vb]) ∧ One br w w' ∧ Rd w' br q ∧ q ≤ p + c ∧ MachO w' w.heap.size w'.heap.size vr va vb yr ya yb ∧ yr.length ≤ 14 ∧ ya.length ≤ n ∧ yb.length ≤ m ∧ (∀ y ∈ yb, 3 ≤ y.length ∧ y.length ≤ 4) ∧ -1 ≤ pc ∧ pc ≤ 1000
def S1 (w : World) (br p q : Nat) (vp : Array Value) (bo lo m : Nat) (pc : Int) (va vb : Value) (ya : List Int) (yb : List (List Int)) (xs : List Int) (wr : World) : Prop := ∃ (a : Option Addr) (d q2 : Nat), xs.length = m ∧ One br w wr ∧ Rd wr br q2 ∧ q2 ≤ q + m ∧ wr.heap[w.heap.size]? = some (.cells vp 26 (0, 0)) ∧ wr.heap[w.heap.size + 1]? = some (.cells #[.int .i64 0, .slice none 0 0, .slice none 0 0, .slice none 0 0] 31 (0, 0)) ∧ wr.heap[bo]? = some (.cells #[.int .i64 pc, .slice a m d, va, vb] 31 (0, 0)) ∧
  MemO wr lo bo va vb ya yb ∧ OwnF 1 encI wr (bo + 1) 3 (.slice a m d) xs
set_option maxHeartbeats 16000000 in
set_option maxRecDepth 100000 in
theorem l6State (w : World) (br p : Nat) (a1 a2 a3 : Option Addr) (nv d1 na d2 nl d3 : Nat) (h : Rd w br p) (hnv : nv ≤ 1000) (hna : na ≤ 1000) (hnl0 : nl ≤ 1000) (hp : p + 6000 < 1099511627776) :
    Calls Try.prog 72 #[.pointer (some ⟨br, 0, none⟩), .agg #[.slice a1 nv d1, .slice a2 na d2, .slice a3 nl d3]] w (GotN w br p 5100 (nv + 2) na) := by
  have hbl := h.lt
  go_enter Try.func72, Try.ntmps72
  go_upto_region 1 with fail
  have N0 : New w ((w.alloc (.cells #[.slice a1 nv d1, .slice a2 na d2, .slice a3 nl d3] 26)).alloc (.cells #[.int .i64 0, .slice none 0 0, .slice none 0 0, .slice none 0 0] 31)) := ((Kp.refl _ _).alloc _).alloc _
  have bP_0 : ((w.alloc (.cells #[.slice a1 nv d1, .slice a2 na d2, .slice a3 nl d3] 26)).alloc (.cells #[.int .i64 0, .slice none 0 0, .slice none 0 0, .slice none 0 0] 31)).heap[w.heap.size]? = some (.cells #[.slice a1 nv d1, .slice a2 na d2, .slice a3 nl d3] 26) := heap_old (alloc_heap _ _)
  have bR_0 : ((w.alloc (.cells #[.slice a1 nv d1, .slice a2 na d2, .slice a3 nl d3] 26)).alloc (.cells #[.int .i64 0, .slice none 0 0, .slice none 0 0, .slice none 0 0] 31)).heap[w.heap.size + 1]? = some (.cells #[.int .i64 0, .slice none 0 0, .slice none 0 0, .slice none 0 0] 31) := heap_at (by simp)
  have z0 : w.heap.size + 1 < ((w.alloc (.cells #[.slice a1 nv d1, .slice a2 na d2, .slice a3 nl d3] 26)).alloc (.cells #[.int .i64 0, .slice none 0 0, .slice none 0 0, .slice none 0 0] 31)).heap.size := by simp
  generalize ((w.alloc (.cells #[.slice a1 nv d1, .slice a2 na d2, .slice a3 nl d3] 26)).alloc (.cells #[.int .i64 0, .slice none 0 0, .slice none 0 0, .slice none 0 0] 31)) = w0 at *
  have r0 := h.nw N0
  have K0 : One br w w0 := N0.mono (fun _ _ f => f.elim)
  clear N0 h
  obtain ⟨cP0, cP1, cP2⟩ := cells3 bP_0
  have lP := heap_lt bP_0
  go_wp2_with fail
  refine (Decl.l6Heads _ _ _ _ _ _ _).mono ?_
  rintro e w1 ⟨rfl, hn1⟩
  have z1 := hn1.size
  have bP_1 := hn1.bk bP_0
  have bR_1 := hn1.bk bR_0
  have K1 := K0.nw hn1
  have r1 := r0.nw hn1
  clear cP0 cP1 cP2 lP
  clear bP_0 bR_0 K0 r0 hn1
  obtain ⟨cP0, cP1, cP2⟩ := cells3 bP_1
  have lP := heap_lt bP_1
  go_wp2_with fail
  refine (DrawM.l3Memory w1 br p a1 a2 none nv d1 na d2 0 0 r1 (by omega) (by omega) (by omega)).mono ?_
  rintro e w2 ⟨ua, ub, ya, yb, q, rfl, hn2, r2, hq, hM, hy1, hy2, hy3⟩
  have z2 := hn2.size
  have bP_2 := hn2.bo bP_1
  have bR_2 := hn2.bo bR_1
  have K2 := K1.trans hn2
  clear cP0 cP1 cP2 lP
  clear bP_1 bR_1 K1 r1 hn2
  obtain ⟨⟨a4, d4, rfl⟩, a5, d5, rfl⟩ := hM.lens
  have oM_2 := Lib.hid hM
  have hy1h := Lib.hid hy1
  have hy2h := Lib.hid hy2
  have hy3h := Lib.hid hy3
  clear hM hy1 hy2 hy3
  obtain ⟨cP0, cP1, cP2⟩ := cells3 bP_2
  have lP := heap_lt bP_2
  obtain ⟨hn3, y3, bE_3⟩ := newb w2 (.cells #[.int .i64 0, .slice none 0 0, .slice a4 ya.length d4, .slice a5 yb.length d5] 31)
  go_upto_region 2 with fail
  have hs1 : w1.heap.size ≤ w2.heap.size := z2
  generalize (w2.alloc (.cells #[.int .i64 0, .slice none 0 0, .slice a4 ya.length d4, .slice a5 yb.length d5] 31)) = w3 at *
  have z3 := hn3.size
  have bP_3 := hn3.bk bP_2
  have bR_3 := hn3.bk bR_2
  have oM_3 := Lib.hid (oM_2.out.new (by omega) hn3)
  have K3 := K2.nw hn3
  have r3 := r2.nw hn3
  clear cP0 cP1 cP2 lP
  clear bP_2 bR_2 oM_2 K2 r2 hn3
  have hbr : br < w2.heap.size := by have := r3.lt; have := K3.size; omega
  have hlo : w.heap.size + 2 ≤ w1.heap.size := by omega
  generalize hbo : w2.heap.size = bo at *
  generalize hlo1 : w1.heap.size = lo at *
  have hbo1 : bo < w3.heap.size := y3
  clear hbo hlo1
  have hS : S1 w br p q #[.slice a1 nv d1, .slice a2 na d2, .slice a3 nl d3] bo lo 0 0 (.slice a4 ya.length d4) (.slice a5 yb.length d5) ya yb [] w3 := ⟨none, 0, q, rfl, K3, r3, Nat.le_refl _, bP_3, bR_3, bE_3, oM_3.out, OwnF.nil _ _ _⟩
  clear z0 z1 z2 z3 y3
  by_cases hnl : 0 < nl
  · clear hS
    have cP2 := cell_of_heap bP_3 2
    have lP := heap_lt bP_3
    obtain ⟨cE0, cE1, cE2, cE3⟩ := cells4 bE_3
    have fE := frozen_of_heap bE_3
    have lE := heap_lt bE_3
    go_wp2_with fail
    refine (pick w3 br (q) _ r3 (by omega)).mono ?_
    rintro e w4 ⟨t, rfl, t0, t1, t2, hn4, r4⟩
    have z4 := hn4.size
    have bP_4 := hn4.bo bP_3
    have bR_4 := hn4.bo bR_3
    have bE_4 := hn4.bo bE_3
    have oM_4 := Lib.hid (oM_3.out.kp hn4 (fun b e => by omega))
    have K4 := K3.trans hn4
    clear cP2 lP cE0 cE1 cE2 cE3 fE lE
    clear bP_3 bR_3 bE_3 oM_3 K3 r3 hn4
    have ht : t ≤ 1000 := by have := t1 (by omega); omega
    clear t1 t2
    obtain ⟨cE0, cE1, cE2, cE3⟩ := cells4 bE_4
    have fE := frozen_of_heap bE_4
    have lE := heap_lt bE_4
    go_upto_region 4 with fail
    have hk5 : Kp (fun k => k = bo) w4 (w4.setCell ⟨bo, 0, none⟩ (.int .i64 t)) := (Kp.setCell (Kp.refl (fun k => k = bo) _) (.inl rfl) _)
    have bE_5 : (w4.setCell ⟨bo, 0, none⟩ (.int .i64 t)).heap[bo]? = some (.cells #[.int .i64 t, .slice none 0 0, .slice a4 ya.length d4, .slice a5 yb.length d5] 31) := (setCell_heap bE_4 _)
    generalize (w4.setCell ⟨bo, 0, none⟩ (.int .i64 t)) = w5 at *
    have z5 := hk5.size
    have bP_5 := hk5.bo bP_4
    have bR_5 := hk5.bo bR_4
    have oM_5 := Lib.hid (oM_4.out.kp hk5 (fun b e => by omega))
    have K5 : One br w w5 := one_on K4 hk5 (by omega)
    have r5 := r4.kp hk5
    clear cE0 cE1 cE2 cE3 fE lE
    clear bP_4 bR_4 bE_4 oM_4 K4 r4 hk5
    have hS : S1 w br p (q + 1) #[.slice a1 nv d1, .slice a2 na d2, .slice a3 nl d3] bo lo 0 t (.slice a4 ya.length d4) (.slice a5 yb.length d5) ya yb [] w5 := ⟨none, 0, q + 1, rfl, K5, r5, Nat.le_refl _, bP_5, bR_5, bE_5, oM_5.out, OwnF.nil _ _ _⟩
    have hSh := Lib.hid hS
    clear hS K5 r5 bP_5 bR_5 bE_5 oM_5
    obtain ⟨q1, hq1⟩ : ∃ q1, q + 1 = q1 := ⟨_, rfl⟩
    rw [hq1] at hSh
    go_wp2_with fail
    go_loopw [6] (fun i wr => ∃ j : Nat, j ≤ 14 ∧ i = .int .i64 j ∧ ∃ xs, S1 w br p q1 #[.slice a1 nv d1, .slice a2 na d2, .slice a3 nl d3] bo lo j t (.slice a4 ya.length d4) (.slice a5 yb.length d5) ya yb xs wr) (fun i _ => 14 - (intOf i).toNat)
    case atStart => exact ⟨0, Nat.zero_le _, rfl, [], hSh.out⟩
    case round =>
      obtain ⟨j, hj, rfl, xs, a, d, q2, hl, K0, r0, hq2, bP_0, bR_0, bE_0, hM, hO⟩ := hrel
      clear hSh
      have oM_0 := Lib.hid hM
      have oX_0 := Lib.hid hO
      have hlX := Lib.hid hl
      have zw := K0.size
      have zE := heap_lt bE_0
      have hbr2 := r0.lt
      clear hl hM hO
      by_cases hlt : j < 14
      · have cE1 := cell_of_heap bE_0 1
        have lE := heap_lt bE_0
        go_wp2_with fail
        refine wp_region_tail (k := 7) (S := fun w' => w'.cell? ⟨bo, 1, none⟩ = some (.slice a j d)) (by kernel_rfl) ?_ (fun hHeld => ?_)
        · exact cE1
        clear cE1 lE
        have hn1 : New wr wr.drew := (Kp.refl _ _).drew
        generalize wr.drew = w1 at *
        have z1 := hn1.size
        have bP_1 := hn1.bk bP_0
        have bR_1 := hn1.bk bR_0
        have bE_1 := hn1.bk bE_0
        have oM_1 := Lib.hid (oM_0.out.new (by omega) hn1)
        have oX_1 := Lib.hid (oX_0.out.new hn1)
        have K1 := K0.nw hn1
        have r1 := r0.nw hn1
        clear bP_0 bR_0 bE_0 oM_0 oX_0 K0 r0 hn1
        have cE1 := cell_of_heap bE_1 1
        have lE := heap_lt bE_1
        refine AnyK.tw 0 rfl ?_
        try simp only [AP]
        refine AnyK.tk 1 rfl ?_
        try simp only [AP]
        refine AnyK.tw 2 rfl ?_
        try simp only [AP]
        refine AnyK.step (i := 3) (by kernel_rfl) rfl (fun K hK => ?_)
        go_simp
        refine (DrawV.l3Value w1 br (q2) r1 (by omega)).mono ?_
        rintro e w2 ⟨x, rfl, ⟨x0, x1⟩, hn2, r2⟩
        have z2 := hn2.size
        have bP_2 := hn2.bo bP_1
        have bR_2 := hn2.bo bR_1
        have bE_2 := hn2.bo bE_1
        have oM_2 := Lib.hid (oM_1.out.kp hn2 (fun b e => by omega))
        have oX_2 := Lib.hid (oX_1.out.kb hn2 (fun b e => by omega))
        have K2 := K1.trans hn2
        clear cE1 lE
        clear bP_1 bR_1 bE_1 oM_1 oX_1 K1 r1 hn2
        have cE1 := cell_of_heap bE_2 1
        have lE := heap_lt bE_2
        refine hK.out _ _ ?_ (fun hHeld2 => ?_)
        · exact cE1
        clear hK K hHeld
        have hHeld := hHeld2
        clear hHeld2
        try simp only [AP]
        refine AnyK.step (i := 4) (by kernel_rfl) rfl (fun K hK => ?_)
        go_simp
        obtain ⟨hn3, y3, bV_3⟩ := newb w2 (.cells #[.int .i64 x] 3)
        generalize w2.alloc (.cells #[.int .i64 x] 3) = w3 at *
        have z3 := hn3.size
        have bP_3 := hn3.bk bP_2
        have bR_3 := hn3.bk bR_2
        have bE_3 := hn3.bk bE_2
        have oM_3 := Lib.hid (oM_2.out.new (by omega) hn3)
        have oX_3 := Lib.hid (oX_2.out.new hn3)
        have K3 := K2.nw hn3
        have r3 := r2.nw hn3
        clear cE1 lE
        clear bP_2 bR_2 bE_2 oM_2 oX_2 K2 r2 hn3
        have cE1 := cell_of_heap bE_3 1
        have lE := heap_lt bE_3
        refine hK.out _ _ ?_ (fun hHeld2 => ?_)
        · exact cE1
        clear hK K hHeld
        have hHeld := hHeld2
        clear hHeld2
        try simp only [AP]
        refine AnyK.step (i := 5) (by kernel_rfl) rfl (fun K hK => ?_)
        refine step_pushes rfl (.tmp 27) (.tmp 30) 23 rfl (bo + 1) 3 _ _ Try.underlying23 LawF.infoI rfl (by decide) (.slice a j d) xs rfl oX_3.out _ [x] rfl (FlR.one (b := w2.heap.size) fun t ht => ?_) ?_ ?_ ?_ ?_ ?_
        · obtain rfl : t = 0 := by omega
          exact cell_of_heap bV_3 0
        · intro y hy t
          rw [List.mem_singleton] at hy
          subst hy
          exact oneI _ _
        · have := hlX.out; simp; omega
        · have := hlX.out; simp; omega
        · omega
        intro v4 w4 hv4 hp4 ha4
        have hlt4 := oX_3.out.lt
        have hk4 : Kp (fun b => bo + 1 ≤ b) w3 w4 := hp4.mono fun b _ e => (hlt4 b e).1
        obtain ⟨a', d', e4, _⟩ := hv4.reads.len
        have hm4 : (xs ++ [x]).length = j + 1 := by simp [hlX.out]
        rw [hm4] at e4
        subst e4
        have oX_4 := Lib.hid hv4
        clear hlX
        have hlX := Lib.hid hm4
        clear hv4 hp4 ha4 hlt4 hm4 oX_3 bV_3
        have z4 := hk4.size
        have bP_4 := hk4.bo bP_3
        have bR_4 := hk4.bo bR_3
        have bE_4 := hk4.bo bE_3
        have oM_4 := Lib.hid (oM_3.out.kp hk4 (fun b e => by omega))
        have K4 : One br w w4 := one_new K3 hk4 (fun b e => by omega)
        have r4 := r3.keep hk4 (fun i e => by omega)
        clear cE1 lE
        clear bP_3 bR_3 bE_3 oM_3 K3 r3 hk4
        have cE1 := cell_of_heap bE_4 1
        have lE := heap_lt bE_4
        refine hK.out _ _ ?_ (fun hHeld2 => ?_)
        · exact cE1
        clear hK K hHeld
        have hHeld := hHeld2
        clear hHeld2
        try simp only [AP]
        refine AnyK.tw 6 rfl ?_
        try simp only [AP]
        refine AnyK.last (by kernel_rfl) ?_
        simp only [List.drop_succ_cons, List.drop_zero]
        clear hHeld
        clear cE1 lE
        obtain ⟨cE0, cE1, cE2, cE3⟩ := cells4 bE_4
        have fE := frozen_of_heap bE_4
        have lE := heap_lt bE_4
        have kz : One bo w4 (w4.setCell ⟨bo, 1, none⟩ (.slice a' (j + 1) d')) := (Kp.refl (fun k => k = bo) _).setCell (.inl rfl) _
        have zz := kz.size
        have hS : S1 w br p q1 #[.slice a1 nv d1, .slice a2 na d2, .slice a3 nl d3] bo lo (j + 1) t (.slice a4 ya.length d4) (.slice a5 yb.length d5) ya yb (xs ++ [x]) (w4.setCell ⟨bo, 1, none⟩ (.slice a' (j + 1) d')) := ⟨a', d', q2 + 1, hlX.out, one_on K4 kz (by omega), r4.keep kz (fun b e => by omega), by omega, heap_set bP_4 (by omega) _, heap_set bR_4 (by omega) _, setCell_heap bE_4 _, oM_4.out.kp kz (fun b e => by omega), oX_4.out.kb kz (fun b e => by omega)⟩
        have hSh := Lib.hid hS
        clear hS oX_4 oM_4 K4 r4 kz bR_4 bP_4
        go_wp2
        go_roundw
        case rel => exact ⟨j + 1, by omega, by go_num, _, hSh.out⟩
        case measure => simp [intOf]; omega
      · obtain rfl : j = 14 := by omega
        clear hlt hj bP_0
        obtain ⟨-, g, ge, -, -⟩ := own_cells oX_0.out (by rw [hlX.out]; decide)
        cases ge
        go_wp2_with fail
        refine (pick wr br (q2) _ r0 (by omega)).mono ?_
        rintro e w1 ⟨v, rfl, v0, v1, v2, hn1, r1⟩
        have z1 := hn1.size
        have bR_1 := hn1.bo bR_0
        have bE_1 := hn1.bo bE_0
        have oM_1 := Lib.hid (oM_0.out.kp hn1 (fun b e => by omega))
        have oX_1 := Lib.hid (oX_0.out.kb hn1 (fun b e => by omega))
        have K1 := K0.trans hn1
        clear bR_0 bE_0 oM_0 oX_0 K0 r0 hn1
        clear v1 v2
        by_cases hv0 : v = 0
        · subst hv0
          obtain ⟨cE0, cE1, cE2, cE3⟩ := cells4 bE_1
          have fE := frozen_of_heap bE_1
          have lE := heap_lt bE_1
          go_wp2_with fail
          have hNr := r1.lt
          refine (num _ br (q2 + 1) _ 3 _ (fun x => -1 ≤ x ∧ x ≤ 400) (r1.keep (S := fun _ => False) ((Kp.refl _ _).alloc _) (fun _ f => f.elim)) (by omega) (by omega) (by omega) (by omega) ?_).mono ?_
          · intro i hi
            match i, hi with
            | 0, _ => exact ⟨_, by decide, World.cell?_alloc_new _ _ _ _⟩
            | 1, _ => exact ⟨_, by decide, World.cell?_alloc_new _ _ _ _⟩
            | 2, _ => exact ⟨_, by decide, World.cell?_alloc_new _ _ _ _⟩
          rintro e w2 ⟨y, rfl, ⟨y0, y1⟩, k1, r2⟩
          have hn2 : One br w1 w2 := ((Kp.refl (fun k => k = br) w1).alloc _).trans k1
          clear k1 hNr
          have z2 := hn2.size
          have bR_2 := hn2.bo bR_1
          have bE_2 := hn2.bo bE_1
          have oM_2 := Lib.hid (oM_1.out.kp hn2 (fun b e => by omega))
          have oX_2 := Lib.hid (oX_1.out.kb hn2 (fun b e => by omega))
          have K2 := K1.trans hn2
          clear cE0 cE1 cE2 cE3 fE lE
          clear bR_1 bE_1 oM_1 oX_1 K1 r1 hn2
          obtain ⟨cE0, cE1, cE2, cE3⟩ := cells4 bE_2
          have fE := frozen_of_heap bE_2
          have lE := heap_lt bE_2
          go_upto_region 17 with fail
          have hk3 : Kp (fun k => k = bo) w2 (w2.setCell ⟨bo, 0, none⟩ (.int .i64 y)) := (Kp.setCell (Kp.refl (fun k => k = bo) _) (.inl rfl) _)
          have bE_3 : (w2.setCell ⟨bo, 0, none⟩ (.int .i64 y)).heap[bo]? = some (.cells #[.int .i64 y, .slice (some ⟨g, 0, none⟩) 14 d, .slice a4 ya.length d4, .slice a5 yb.length d5] 31) := (setCell_heap bE_2 _)
          generalize (w2.setCell ⟨bo, 0, none⟩ (.int .i64 y)) = w3 at *
          have z3 := hk3.size
          have bR_3 := hk3.bo bR_2
          have oM_3 := Lib.hid (oM_2.out.kp hk3 (fun b e => by omega))
          have oX_3 := Lib.hid (oX_2.out.kb hk3 (fun b e => by omega))
          have K3 : One br w w3 := one_on K2 hk3 (by omega)
          have r3 := r2.kp hk3
          clear cE0 cE1 cE2 cE3 fE lE
          clear bR_2 bE_2 oM_2 oX_2 K2 r2 hk3
          obtain ⟨cE0, cE1, cE2, cE3⟩ := cells4 bE_3
          have lE := heap_lt bE_3
          obtain ⟨cR0, cR1, cR2, cR3⟩ := cells4 bR_3
          have fR := frozen_of_heap bR_3
          have lR := heap_lt bR_3
          go_wp2
          have hkz := setMany_kp (w.heap.size + 1) [.int .i64 y, .slice (some ⟨g, 0, none⟩) 14 d, .slice a4 ya.length d4, .slice a5 yb.length d5] w3 0
          have zs := setMany_size (w.heap.size + 1) [.int .i64 y, .slice (some ⟨g, 0, none⟩) 14 d, .slice a4 ya.length d4, .slice a5 yb.length d5] w3 0
          have hR := setMany_row [.int .i64 y, .slice (some ⟨g, 0, none⟩) 14 d, .slice a4 ya.length d4, .slice a5 yb.length d5] bR_3 rfl
          exact bodyPost_ret (results_cell_row rfl _ _ _ _ _ _ _ rfl hR Try.underlying31 rfl (by kernel_rfl)) rfl ⟨_, _, _, _, xs, _, _, q2 + 1 + 1, rfl, one_on K3 hkz (by omega), r3.keep hkz (fun b e => by omega), by omega, (show MachO (setMany w3 (w.heap.size + 1) 0 [.int .i64 y, .slice (some ⟨g, 0, none⟩) 14 d, .slice a4 ya.length d4, .slice a5 yb.length d5]) w.heap.size (setMany w3 (w.heap.size + 1) 0 [.int .i64 y, .slice (some ⟨g, 0, none⟩) 14 d, .slice a4 ya.length d4, .slice a5 yb.length d5]).heap.size _ _ _ _ _ _ from ⟨bo + 1, w3.heap.size, lo, bo, by omega, by omega, by omega, by omega, .inr (by omega), (OwnR.of (oX_3.out)).kp hkz (fun b e => by omega), oM_3.out.kp hkz (fun b e => by omega)⟩), by have := hlX.out; omega, by have := hy1h.out; omega, by have := hy2h.out; omega, hy3h.out, by omega⟩
        have hv0b : (v == 0) = false := by simpa using hv0
        by_cases hv1 : v = 1
        · subst hv1
          have hX : OwnF 1 encI w1 (bo + 1) 3 (.slice (some ⟨g, 0, none⟩) xs.length d) xs := by rw [hlX.out]; exact oX_1.out
          have hcap := hX.cap
          rw [hlX.out] at hcap
          obtain ⟨hc1, hc2⟩ := hcap
          have hT := Lib.hid (hX.take 13 (by have := hlX.out; omega))
          have hT3 : (13 : Int) ≤ d := by omega
          clear hX
          obtain ⟨cE0, cE1, cE2, cE3⟩ := cells4 bE_1
          have fE := frozen_of_heap bE_1
          have lE := heap_lt bE_1
          skip
          go_upto_region 17 with fail
          have hk2 : Kp (fun k => k = bo) w1 (w1.setCell ⟨bo, 1, none⟩ (.slice (some ⟨g, 0, none⟩) 13 d)) := (Kp.setCell (Kp.refl (fun k => k = bo) _) (.inl rfl) _)
          have bE_2 : (w1.setCell ⟨bo, 1, none⟩ (.slice (some ⟨g, 0, none⟩) 13 d)).heap[bo]? = some (.cells #[.int .i64 t, .slice (some ⟨g, 0, none⟩) 13 d, .slice a4 ya.length d4, .slice a5 yb.length d5] 31) := (setCell_heap bE_1 _)
          generalize (w1.setCell ⟨bo, 1, none⟩ (.slice (some ⟨g, 0, none⟩) 13 d)) = w2 at *
          have hTn := Lib.hid (hT.out.kb hk2 (fun b e => by omega))
          have z2 := hk2.size
          have bR_2 := hk2.bo bR_1
          have oM_2 := Lib.hid (oM_1.out.kp hk2 (fun b e => by omega))
          have oX_2 := Lib.hid (oX_1.out.kb hk2 (fun b e => by omega))
          have K2 : One br w w2 := one_on K1 hk2 (by omega)
          have r2 := r1.kp hk2
          clear cE0 cE1 cE2 cE3 fE lE
          clear bR_1 bE_1 oM_1 oX_1 K1 r1 hk2
          obtain ⟨cE0, cE1, cE2, cE3⟩ := cells4 bE_2
          have lE := heap_lt bE_2
          obtain ⟨cR0, cR1, cR2, cR3⟩ := cells4 bR_2
          have fR := frozen_of_heap bR_2
          have lR := heap_lt bR_2
          go_wp2
          have hkz := setMany_kp (w.heap.size + 1) [.int .i64 t, .slice (some ⟨g, 0, none⟩) 13 d, .slice a4 ya.length d4, .slice a5 yb.length d5] w2 0
          have zs := setMany_size (w.heap.size + 1) [.int .i64 t, .slice (some ⟨g, 0, none⟩) 13 d, .slice a4 ya.length d4, .slice a5 yb.length d5] w2 0
          have hR := setMany_row [.int .i64 t, .slice (some ⟨g, 0, none⟩) 13 d, .slice a4 ya.length d4, .slice a5 yb.length d5] bR_2 rfl
          exact bodyPost_ret (results_cell_row rfl _ _ _ _ _ _ _ rfl hR Try.underlying31 rfl (by kernel_rfl)) rfl ⟨_, _, _, _, (xs.take 13), _, _, q2 + 1, rfl, one_on K2 hkz (by omega), r2.keep hkz (fun b e => by omega), by omega, (show MachO (setMany w2 (w.heap.size + 1) 0 [.int .i64 t, .slice (some ⟨g, 0, none⟩) 13 d, .slice a4 ya.length d4, .slice a5 yb.length d5]) w.heap.size (setMany w2 (w.heap.size + 1) 0 [.int .i64 t, .slice (some ⟨g, 0, none⟩) 13 d, .slice a4 ya.length d4, .slice a5 yb.length d5]).heap.size _ _ _ _ _ _ from ⟨bo + 1, w2.heap.size, lo, bo, by omega, by omega, by omega, by omega, .inr (by omega), (OwnR.of (hTn.out)).kp hkz (fun b e => by omega), oM_2.out.kp hkz (fun b e => by omega)⟩), by simp; omega, by have := hy1h.out; omega, by have := hy2h.out; omega, hy3h.out, by omega⟩
        have hv1b : (v == 1) = false := by simpa using hv1
        by_cases hv2 : v = 2
        · subst hv2
          obtain ⟨cE0, cE1, cE2, cE3⟩ := cells4 bE_1
          have fE := frozen_of_heap bE_1
          have lE := heap_lt bE_1
          go_wp2_with fail
          refine wp_region_tail (k := 6) (S := fun w' => w'.cell? ⟨bo, 1, none⟩ = some (.slice (some ⟨g, 0, none⟩) 14 d)) (by kernel_rfl) ?_ (fun hHeld => ?_)
          · exact cE1
          clear cE0 cE1 cE2 cE3 fE lE
          have hn2 : New w1 w1.drew := (Kp.refl _ _).drew
          generalize w1.drew = w2 at *
          have z2 := hn2.size
          have bR_2 := hn2.bk bR_1
          have bE_2 := hn2.bk bE_1
          have oM_2 := Lib.hid (oM_1.out.new (by omega) hn2)
          have oX_2 := Lib.hid (oX_1.out.new hn2)
          have K2 := K1.nw hn2
          have r2 := r1.nw hn2
          clear bR_1 bE_1 oM_1 oX_1 K1 r1 hn2
          have cE1 := cell_of_heap bE_2 1
          have lE := heap_lt bE_2
          refine AnyK.tw 0 rfl ?_
          try simp only [AP]
          refine AnyK.tk 1 rfl ?_
          try simp only [AP]
          refine AnyK.tw 2 rfl ?_
          try simp only [AP]
          refine AnyK.step (i := 3) (by kernel_rfl) rfl (fun K hK => ?_)
          go_simp
          obtain ⟨hn3, y3, bN_3⟩ := newb w2 (.cells #[.int .i64 (-1), .int .i64 256] 3)
          generalize w2.alloc (.cells #[.int .i64 (-1), .int .i64 256] 3) = w3 at *
          have z3 := hn3.size
          have bR_3 := hn3.bk bR_2
          have bE_3 := hn3.bk bE_2
          have oM_3 := Lib.hid (oM_2.out.new (by omega) hn3)
          have oX_3 := Lib.hid (oX_2.out.new hn3)
          have K3 := K2.nw hn3
          have r3 := r2.nw hn3
          clear cE1 lE
          clear bR_2 bE_2 oM_2 oX_2 K2 r2 hn3
          have cE1 := cell_of_heap bE_3 1
          have lE := heap_lt bE_3
          refine hK.out _ _ ?_ (fun hHeld2 => ?_)
          · exact cE1
          clear hK K hHeld
          have hHeld := hHeld2
          clear hHeld2
          try simp only [AP]
          refine AnyK.step (i := 4) (by kernel_rfl) rfl (fun K hK => ?_)
          go_simp
          have hNc := Lib.hid (fun i : Nat => cell_of_heap bN_3 i)
          have hNl := heap_lt bN_3
          have hNr := r3.lt
          refine (num w3 br (q2 + 1) (w2.heap.size) 2 _ (fun x => -1 ≤ x ∧ x ≤ 256) r3 (by omega) (by omega) (by omega) (by omega) ?_).mono ?_
          · intro i hi
            have hi2 := hNc.out i
            match i, hi with
            | 0, _ => exact ⟨_, by decide, hi2⟩
            | 1, _ => exact ⟨_, by decide, hi2⟩
          rintro e w4 ⟨y, rfl, ⟨y0, y1⟩, hn4, r4⟩
          clear hNc hNl hNr bN_3
          have z4 := hn4.size
          have bR_4 := hn4.bo bR_3
          have bE_4 := hn4.bo bE_3
          have oM_4 := Lib.hid (oM_3.out.kp hn4 (fun b e => by omega))
          have oX_4 := Lib.hid (oX_3.out.kb hn4 (fun b e => by omega))
          have K4 := K3.trans hn4
          clear cE1 lE
          clear bR_3 bE_3 oM_3 oX_3 K3 r3 hn4
          have cE1 := cell_of_heap bE_4 1
          have lE := heap_lt bE_4
          refine hK.out _ _ ?_ (fun hHeld2 => ?_)
          · exact cE1
          clear hK K hHeld
          have hHeld := hHeld2
          clear hHeld2
          try simp only [AP]
          refine AnyK.tw 5 rfl ?_
          try simp only [AP]
          refine AnyK.last (by kernel_rfl) ?_
          simp only [List.drop_succ_cons, List.drop_zero]
          clear hHeld
          clear cE1 lE
          have hX : OwnF 1 encI w4 (bo + 1) 3 (.slice (some ⟨g, 0, none⟩) xs.length d) xs := by rw [hlX.out]; exact oX_4.out
          obtain ⟨-, _, ge, gc, gf⟩ := own_cells hX (by rw [hlX.out]; decide)
          cases ge
          obtain ⟨u, gc0⟩ : ∃ u : Int, w4.cell? ⟨g, 0, none⟩ = some (.int .i64 u) := ⟨_, gc 0 (by rw [hlX.out]; decide)⟩
          have gf0 := gf 0
          have gs := OwnF.set1 (enc := encI) hX 0 (by rw [hlX.out]; decide) y
          have gx := (hX.lt g (ownBlock_at _ _ _)).1
          rw [hlX.out] at gs
          have gsh := Lib.hid gs
          clear gs gc gf hX
          obtain ⟨cE0, cE1, cE2, cE3⟩ := cells4 bE_4
          have fE := frozen_of_heap bE_4
          have lE := heap_lt bE_4
          go_upto_region 17 with fail
          have hk5 : Kp (fun b => b = g) w4 (w4.setCell ⟨g, 0, none⟩ (.int .i64 y)) := (Kp.refl (fun b => b = g) _).setCell (.inl rfl) _
          have oX_5 := gsh
          generalize (w4.setCell ⟨g, 0, none⟩ (.int .i64 y)) = w5 at *
          clear gc0 gf0 gsh
          have z5 := hk5.size
          have bR_5 := hk5.bo bR_4
          have bE_5 := hk5.bo bE_4
          have oM_5 := Lib.hid (oM_4.out.kp hk5 (fun b e => by omega))
          have K5 : One br w w5 := one_on K4 hk5 (by omega)
          have r5 := r4.kp hk5
          clear cE0 cE1 cE2 cE3 fE lE
          clear bR_4 bE_4 oM_4 K4 r4 hk5
          clear oX_4
          obtain ⟨cE0, cE1, cE2, cE3⟩ := cells4 bE_5
          have lE := heap_lt bE_5
          obtain ⟨cR0, cR1, cR2, cR3⟩ := cells4 bR_5
          have fR := frozen_of_heap bR_5
          have lR := heap_lt bR_5
          go_wp2
          have hkz := setMany_kp (w.heap.size + 1) [.int .i64 t, .slice (some ⟨g, 0, none⟩) 14 d, .slice a4 ya.length d4, .slice a5 yb.length d5] w5 0
          have zs := setMany_size (w.heap.size + 1) [.int .i64 t, .slice (some ⟨g, 0, none⟩) 14 d, .slice a4 ya.length d4, .slice a5 yb.length d5] w5 0
          have hR := setMany_row [.int .i64 t, .slice (some ⟨g, 0, none⟩) 14 d, .slice a4 ya.length d4, .slice a5 yb.length d5] bR_5 rfl
          exact bodyPost_ret (results_cell_row rfl _ _ _ _ _ _ _ rfl hR Try.underlying31 rfl (by kernel_rfl)) rfl ⟨_, _, _, _, (xs.set 0 y), _, _, q2 + 1 + 1, rfl, one_on K5 hkz (by omega), r5.keep hkz (fun b e => by omega), by omega, (show MachO (setMany w5 (w.heap.size + 1) 0 [.int .i64 t, .slice (some ⟨g, 0, none⟩) 14 d, .slice a4 ya.length d4, .slice a5 yb.length d5]) w.heap.size (setMany w5 (w.heap.size + 1) 0 [.int .i64 t, .slice (some ⟨g, 0, none⟩) 14 d, .slice a4 ya.length d4, .slice a5 yb.length d5]).heap.size _ _ _ _ _ _ from ⟨bo + 1, w5.heap.size, lo, bo, by omega, by omega, by omega, by omega, .inr (by omega), (OwnR.of (oX_5.out)).kp hkz (fun b e => by omega), oM_5.out.kp hkz (fun b e => by omega)⟩), by have := hlX.out; simp; omega, by have := hy1h.out; omega, by have := hy2h.out; omega, hy3h.out, by omega⟩
        have hv2b : (v == 2) = false := by simpa using hv2
        by_cases hv3 : v = 3
        · subst hv3
          obtain ⟨tp, htp, hTop⟩ : ∃ tp, tp ≤ w1.heap.size ∧ ∀ b, (Value.slice (some ⟨g, 0, none⟩) 14 d).ownBlock = some b → b < tp := ⟨_, Nat.le_refl _, fun b e => (oX_1.out.lt b e).2⟩
          have htp2 : bo + 1 ≤ tp := by have := (oX_1.out.lt g (ownBlock_at _ _ _)).1; have := hTop g (ownBlock_at _ _ _); omega
          obtain ⟨cE0, cE1, cE2, cE3⟩ := cells4 bE_1
          have fE := frozen_of_heap bE_1
          have lE := heap_lt bE_1
          go_wp2_with fail
          have hMr := oM_1.out.reads
          refine (DrawM.l3Bend w1 br (q2 + 1) nv na lo bo _ _ ya yb r1 hMr.1 hMr.2 (by omega) hy1h.out hy2h.out (by omega) (by omega) hy3h.out (by omega)).mono ?_
          rintro e w2 ⟨u1, u2, za, zb, q3, rfl, hn2, r2, hq3, hM1, hz1, hz2, hz3⟩
          clear hMr
          have z2 := hn2.size
          have bR_2 := hn2.bo bR_1
          have bE_2 := hn2.bo bE_1
          have oM_2 := Lib.hid (oM_1.out.kp hn2 (fun b e => by omega))
          have oX_2 := Lib.hid (oX_1.out.kb hn2 (fun b e => by omega))
          have K2 := K1.trans hn2
          clear cE0 cE1 cE2 cE3 fE lE
          clear bR_1 bE_1 oM_1 oX_1 K1 r1 hn2
          obtain ⟨cE0, cE1, cE2, cE3⟩ := cells4 bE_2
          have fE := frozen_of_heap bE_2
          have lE := heap_lt bE_2
          obtain ⟨⟨a6, d6, rfl⟩, a7, d7, rfl⟩ := hM1.lens
          have hM1h := Lib.hid hM1
          have hz1h := Lib.hid hz1
          have hz2h := Lib.hid hz2
          have hz3h := Lib.hid hz3
          clear hM1 hz1 hz2 hz3
          go_wp2_with fail
          have hMr := hM1h.out.reads
          refine (DrawM.l3Bend w2 br q3 (nv + 1) na w1.heap.size w2.heap.size _ _ za zb r2 hMr.1 hMr.2 (Nat.le_refl _) hz1h.out hz2h.out (by omega) (by omega) hz3h.out (by omega)).mono ?_
          rintro e w3 ⟨u3, u4, ta, tb, q4, rfl, hn3, r3, hq4, hM2, ht1, ht2, ht3⟩
          clear hMr hM1h
          have z3 := hn3.size
          have bR_3 := hn3.bo bR_2
          have bE_3 := hn3.bo bE_2
          have oM_3 := Lib.hid (oM_2.out.kp hn3 (fun b e => by omega))
          have oX_3 := Lib.hid (oX_2.out.kb hn3 (fun b e => by omega))
          have K3 := K2.trans hn3
          clear cE0 cE1 cE2 cE3 fE lE
          clear bR_2 bE_2 oM_2 oX_2 K2 r2 hn3
          obtain ⟨⟨a8, d8, rfl⟩, a9, d9, rfl⟩ := hM2.lens
          have oQ_3 := Lib.hid hM2
          have ht1h := Lib.hid ht1
          have ht2h := Lib.hid ht2
          have ht3h := Lib.hid ht3
          clear hM2 ht1 ht2 ht3
          have hq0 : w2.heap.size ≤ w3.heap.size := z3
          obtain ⟨cE0, cE1, cE2, cE3⟩ := cells4 bE_3
          have fE := frozen_of_heap bE_3
          have lE := heap_lt bE_3
          go_upto_region 17 with fail
          have hk4 : Kp (fun k => k = bo) w3 ((w3.setCell ⟨bo, 2, none⟩ (.slice a8 ta.length d8)).setCell ⟨bo, 3, none⟩ (.slice a9 tb.length d9)) := (Kp.setCell (Kp.setCell (Kp.refl (fun k => k = bo) _) (.inl rfl) _) (.inl rfl) _)
          have bE_4 : ((w3.setCell ⟨bo, 2, none⟩ (.slice a8 ta.length d8)).setCell ⟨bo, 3, none⟩ (.slice a9 tb.length d9)).heap[bo]? = some (.cells #[.int .i64 t, .slice (some ⟨g, 0, none⟩) 14 d, .slice a8 ta.length d8, .slice a9 tb.length d9] 31) := (setCell_heap (setCell_heap bE_3 _) _)
          generalize ((w3.setCell ⟨bo, 2, none⟩ (.slice a8 ta.length d8)).setCell ⟨bo, 3, none⟩ (.slice a9 tb.length d9)) = w4 at *
          have z4 := hk4.size
          have bR_4 := hk4.bo bR_3
          have oM_4 := Lib.hid (oM_3.out.kp hk4 (fun b e => by omega))
          have oX_4 := Lib.hid (oX_3.out.kb hk4 (fun b e => by omega))
          have oQ_4 := Lib.hid (oQ_3.out.kp hk4 (fun b e => by omega))
          have K4 : One br w w4 := one_on K3 hk4 (by omega)
          have r4 := r3.kp hk4
          clear cE0 cE1 cE2 cE3 fE lE
          clear bR_3 bE_3 oM_3 oX_3 oQ_3 K3 r3 hk4
          obtain ⟨cE0, cE1, cE2, cE3⟩ := cells4 bE_4
          have lE := heap_lt bE_4
          obtain ⟨cR0, cR1, cR2, cR3⟩ := cells4 bR_4
          have fR := frozen_of_heap bR_4
          have lR := heap_lt bR_4
          go_wp2
          have hkz := setMany_kp (w.heap.size + 1) [.int .i64 t, .slice (some ⟨g, 0, none⟩) 14 d, .slice a8 ta.length d8, .slice a9 tb.length d9] w4 0
          have zs := setMany_size (w.heap.size + 1) [.int .i64 t, .slice (some ⟨g, 0, none⟩) 14 d, .slice a8 ta.length d8, .slice a9 tb.length d9] w4 0
          have hR := setMany_row [.int .i64 t, .slice (some ⟨g, 0, none⟩) 14 d, .slice a8 ta.length d8, .slice a9 tb.length d9] bR_4 rfl
          exact bodyPost_ret (results_cell_row rfl _ _ _ _ _ _ _ rfl hR Try.underlying31 rfl (by kernel_rfl)) rfl ⟨_, _, _, _, xs, _, _, q4, rfl, one_on K4 hkz (by omega), r4.keep hkz (fun b e => by omega), by omega, (show MachO (setMany w4 (w.heap.size + 1) 0 [.int .i64 t, .slice (some ⟨g, 0, none⟩) 14 d, .slice a8 ta.length d8, .slice a9 tb.length d9]) w.heap.size (setMany w4 (w.heap.size + 1) 0 [.int .i64 t, .slice (some ⟨g, 0, none⟩) 14 d, .slice a8 ta.length d8, .slice a9 tb.length d9]).heap.size _ _ _ _ _ _ from ⟨bo + 1, tp, w2.heap.size, w3.heap.size, by omega, by omega, by omega, by omega, .inl (by omega), (OwnR.mk oX_4.out hTop).kp hkz (fun b e => by omega), oQ_4.out.kp hkz (fun b e => by omega)⟩), by have := hlX.out; omega, by have := ht1h.out; omega, by have := ht2h.out; omega, ht3h.out, by omega⟩
        · have hv3b : (v == 3) = false := by simpa using hv3
          obtain ⟨cE0, cE1, cE2, cE3⟩ := cells4 bE_1
          have lE := heap_lt bE_1
          obtain ⟨cR0, cR1, cR2, cR3⟩ := cells4 bR_1
          have fR := frozen_of_heap bR_1
          have lR := heap_lt bR_1
          go_wp2
          have hkz := setMany_kp (w.heap.size + 1) [.int .i64 t, .slice (some ⟨g, 0, none⟩) 14 d, .slice a4 ya.length d4, .slice a5 yb.length d5] w1 0
          have zs := setMany_size (w.heap.size + 1) [.int .i64 t, .slice (some ⟨g, 0, none⟩) 14 d, .slice a4 ya.length d4, .slice a5 yb.length d5] w1 0
          have hR := setMany_row [.int .i64 t, .slice (some ⟨g, 0, none⟩) 14 d, .slice a4 ya.length d4, .slice a5 yb.length d5] bR_1 rfl
          exact bodyPost_ret (results_cell_row rfl _ _ _ _ _ _ _ rfl hR Try.underlying31 rfl (by kernel_rfl)) rfl ⟨_, _, _, _, xs, _, _, q2 + 1, rfl, one_on K1 hkz (by omega), r1.keep hkz (fun b e => by omega), by omega, (show MachO (setMany w1 (w.heap.size + 1) 0 [.int .i64 t, .slice (some ⟨g, 0, none⟩) 14 d, .slice a4 ya.length d4, .slice a5 yb.length d5]) w.heap.size (setMany w1 (w.heap.size + 1) 0 [.int .i64 t, .slice (some ⟨g, 0, none⟩) 14 d, .slice a4 ya.length d4, .slice a5 yb.length d5]).heap.size _ _ _ _ _ _ from ⟨bo + 1, w1.heap.size, lo, bo, by omega, by omega, by omega, by omega, .inr (by omega), (OwnR.of (oX_1.out)).kp hkz (fun b e => by omega), oM_1.out.kp hkz (fun b e => by omega)⟩), by have := hlX.out; omega, by have := hy1h.out; omega, by have := hy2h.out; omega, hy3h.out, by omega⟩
  · have hSh := Lib.hid hS
    clear hS
    obtain ⟨q1, hq1⟩ : ∃ q1, q = q1 := ⟨_, rfl⟩
    rw [hq1] at hSh
    have cP2 := cell_of_heap bP_3 2
    have lP := heap_lt bP_3
    go_wp2_with fail
    clear cP2 lP
    clear K3 r3 bP_3 bR_3 bE_3 oM_3
    have t0 : (0 : Int) ≤ 0 := by omega
    go_loopw [6] (fun i wr => ∃ j : Nat, j ≤ 14 ∧ i = .int .i64 j ∧ ∃ xs, S1 w br p q1 #[.slice a1 nv d1, .slice a2 na d2, .slice a3 nl d3] bo lo j 0 (.slice a4 ya.length d4) (.slice a5 yb.length d5) ya yb xs wr) (fun i _ => 14 - (intOf i).toNat)
    case atStart => exact ⟨0, Nat.zero_le _, rfl, [], hSh.out⟩
    case round =>
      obtain ⟨j, hj, rfl, xs, a, d, q2, hl, K0, r0, hq2, bP_0, bR_0, bE_0, hM, hO⟩ := hrel
      clear hSh
      have oM_0 := Lib.hid hM
      have oX_0 := Lib.hid hO
      have hlX := Lib.hid hl
      have zw := K0.size
      have zE := heap_lt bE_0
      have hbr2 := r0.lt
      clear hl hM hO
      by_cases hlt : j < 14
      · have cE1 := cell_of_heap bE_0 1
        have lE := heap_lt bE_0
        go_wp2_with fail
        refine wp_region_tail (k := 7) (S := fun w' => w'.cell? ⟨bo, 1, none⟩ = some (.slice a j d)) (by kernel_rfl) ?_ (fun hHeld => ?_)
        · exact cE1
        clear cE1 lE
        have hn1 : New wr wr.drew := (Kp.refl _ _).drew
        generalize wr.drew = w1 at *
        have z1 := hn1.size
        have bP_1 := hn1.bk bP_0
        have bR_1 := hn1.bk bR_0
        have bE_1 := hn1.bk bE_0
        have oM_1 := Lib.hid (oM_0.out.new (by omega) hn1)
        have oX_1 := Lib.hid (oX_0.out.new hn1)
        have K1 := K0.nw hn1
        have r1 := r0.nw hn1
        clear bP_0 bR_0 bE_0 oM_0 oX_0 K0 r0 hn1
        have cE1 := cell_of_heap bE_1 1
        have lE := heap_lt bE_1
        refine AnyK.tw 0 rfl ?_
        try simp only [AP]
        refine AnyK.tk 1 rfl ?_
        try simp only [AP]
        refine AnyK.tw 2 rfl ?_
        try simp only [AP]
        refine AnyK.step (i := 3) (by kernel_rfl) rfl (fun K hK => ?_)
        go_simp
        refine (DrawV.l3Value w1 br (q2) r1 (by omega)).mono ?_
        rintro e w2 ⟨x, rfl, ⟨x0, x1⟩, hn2, r2⟩
        have z2 := hn2.size
        have bP_2 := hn2.bo bP_1
        have bR_2 := hn2.bo bR_1
        have bE_2 := hn2.bo bE_1
        have oM_2 := Lib.hid (oM_1.out.kp hn2 (fun b e => by omega))
        have oX_2 := Lib.hid (oX_1.out.kb hn2 (fun b e => by omega))
        have K2 := K1.trans hn2
        clear cE1 lE
        clear bP_1 bR_1 bE_1 oM_1 oX_1 K1 r1 hn2
        have cE1 := cell_of_heap bE_2 1
        have lE := heap_lt bE_2
        refine hK.out _ _ ?_ (fun hHeld2 => ?_)
        · exact cE1
        clear hK K hHeld
        have hHeld := hHeld2
        clear hHeld2
        try simp only [AP]
        refine AnyK.step (i := 4) (by kernel_rfl) rfl (fun K hK => ?_)
        go_simp
        obtain ⟨hn3, y3, bV_3⟩ := newb w2 (.cells #[.int .i64 x] 3)
        generalize w2.alloc (.cells #[.int .i64 x] 3) = w3 at *
        have z3 := hn3.size
        have bP_3 := hn3.bk bP_2
        have bR_3 := hn3.bk bR_2
        have bE_3 := hn3.bk bE_2
        have oM_3 := Lib.hid (oM_2.out.new (by omega) hn3)
        have oX_3 := Lib.hid (oX_2.out.new hn3)
        have K3 := K2.nw hn3
        have r3 := r2.nw hn3
        clear cE1 lE
        clear bP_2 bR_2 bE_2 oM_2 oX_2 K2 r2 hn3
        have cE1 := cell_of_heap bE_3 1
        have lE := heap_lt bE_3
        refine hK.out _ _ ?_ (fun hHeld2 => ?_)
        · exact cE1
        clear hK K hHeld
        have hHeld := hHeld2
        clear hHeld2
        try simp only [AP]
        refine AnyK.step (i := 5) (by kernel_rfl) rfl (fun K hK => ?_)
        refine step_pushes rfl (.tmp 27) (.tmp 30) 23 rfl (bo + 1) 3 _ _ Try.underlying23 LawF.infoI rfl (by decide) (.slice a j d) xs rfl oX_3.out _ [x] rfl (FlR.one (b := w2.heap.size) fun t ht => ?_) ?_ ?_ ?_ ?_ ?_
        · obtain rfl : t = 0 := by omega
          exact cell_of_heap bV_3 0
        · intro y hy t
          rw [List.mem_singleton] at hy
          subst hy
          exact oneI _ _
        · have := hlX.out; simp; omega
        · have := hlX.out; simp; omega
        · omega
        intro v4 w4 hv4 hp4 ha4
        have hlt4 := oX_3.out.lt
        have hk4 : Kp (fun b => bo + 1 ≤ b) w3 w4 := hp4.mono fun b _ e => (hlt4 b e).1
        obtain ⟨a', d', e4, _⟩ := hv4.reads.len
        have hm4 : (xs ++ [x]).length = j + 1 := by simp [hlX.out]
        rw [hm4] at e4
        subst e4
        have oX_4 := Lib.hid hv4
        clear hlX
        have hlX := Lib.hid hm4
        clear hv4 hp4 ha4 hlt4 hm4 oX_3 bV_3
        have z4 := hk4.size
        have bP_4 := hk4.bo bP_3
        have bR_4 := hk4.bo bR_3
        have bE_4 := hk4.bo bE_3
        have oM_4 := Lib.hid (oM_3.out.kp hk4 (fun b e => by omega))
        have K4 : One br w w4 := one_new K3 hk4 (fun b e => by omega)
        have r4 := r3.keep hk4 (fun i e => by omega)
        clear cE1 lE
        clear bP_3 bR_3 bE_3 oM_3 K3 r3 hk4
        have cE1 := cell_of_heap bE_4 1
        have lE := heap_lt bE_4
        refine hK.out _ _ ?_ (fun hHeld2 => ?_)
        · exact cE1
        clear hK K hHeld
        have hHeld := hHeld2
        clear hHeld2
        try simp only [AP]
        refine AnyK.tw 6 rfl ?_
        try simp only [AP]
        refine AnyK.last (by kernel_rfl) ?_
        simp only [List.drop_succ_cons, List.drop_zero]
        clear hHeld
        clear cE1 lE
        obtain ⟨cE0, cE1, cE2, cE3⟩ := cells4 bE_4
        have fE := frozen_of_heap bE_4
        have lE := heap_lt bE_4
        have kz : One bo w4 (w4.setCell ⟨bo, 1, none⟩ (.slice a' (j + 1) d')) := (Kp.refl (fun k => k = bo) _).setCell (.inl rfl) _
        have zz := kz.size
        have hS : S1 w br p q1 #[.slice a1 nv d1, .slice a2 na d2, .slice a3 nl d3] bo lo (j + 1) 0 (.slice a4 ya.length d4) (.slice a5 yb.length d5) ya yb (xs ++ [x]) (w4.setCell ⟨bo, 1, none⟩ (.slice a' (j + 1) d')) := ⟨a', d', q2 + 1, hlX.out, one_on K4 kz (by omega), r4.keep kz (fun b e => by omega), by omega, heap_set bP_4 (by omega) _, heap_set bR_4 (by omega) _, setCell_heap bE_4 _, oM_4.out.kp kz (fun b e => by omega), oX_4.out.kb kz (fun b e => by omega)⟩
        have hSh := Lib.hid hS
        clear hS oX_4 oM_4 K4 r4 kz bR_4 bP_4
        go_wp2
        go_roundw
        case rel => exact ⟨j + 1, by omega, by go_num, _, hSh.out⟩
        case measure => simp [intOf]; omega
      · obtain rfl : j = 14 := by omega
        clear hlt hj bP_0
        obtain ⟨-, g, ge, -, -⟩ := own_cells oX_0.out (by rw [hlX.out]; decide)
        cases ge
        go_wp2_with fail
        refine (pick wr br (q2) _ r0 (by omega)).mono ?_
        rintro e w1 ⟨v, rfl, v0, v1, v2, hn1, r1⟩
        have z1 := hn1.size
        have bR_1 := hn1.bo bR_0
        have bE_1 := hn1.bo bE_0
        have oM_1 := Lib.hid (oM_0.out.kp hn1 (fun b e => by omega))
        have oX_1 := Lib.hid (oX_0.out.kb hn1 (fun b e => by omega))
        have K1 := K0.trans hn1
        clear bR_0 bE_0 oM_0 oX_0 K0 r0 hn1
        clear v1 v2
        by_cases hv0 : v = 0
        · subst hv0
          obtain ⟨cE0, cE1, cE2, cE3⟩ := cells4 bE_1
          have fE := frozen_of_heap bE_1
          have lE := heap_lt bE_1
          go_wp2_with fail
          have hNr := r1.lt
          refine (num _ br (q2 + 1) _ 3 _ (fun x => -1 ≤ x ∧ x ≤ 400) (r1.keep (S := fun _ => False) ((Kp.refl _ _).alloc _) (fun _ f => f.elim)) (by omega) (by omega) (by omega) (by omega) ?_).mono ?_
          · intro i hi
            match i, hi with
            | 0, _ => exact ⟨_, by decide, World.cell?_alloc_new _ _ _ _⟩
            | 1, _ => exact ⟨_, by decide, World.cell?_alloc_new _ _ _ _⟩
            | 2, _ => exact ⟨_, by decide, World.cell?_alloc_new _ _ _ _⟩
          rintro e w2 ⟨y, rfl, ⟨y0, y1⟩, k1, r2⟩
          have hn2 : One br w1 w2 := ((Kp.refl (fun k => k = br) w1).alloc _).trans k1
          clear k1 hNr
          have z2 := hn2.size
          have bR_2 := hn2.bo bR_1
          have bE_2 := hn2.bo bE_1
          have oM_2 := Lib.hid (oM_1.out.kp hn2 (fun b e => by omega))
          have oX_2 := Lib.hid (oX_1.out.kb hn2 (fun b e => by omega))
          have K2 := K1.trans hn2
          clear cE0 cE1 cE2 cE3 fE lE
          clear bR_1 bE_1 oM_1 oX_1 K1 r1 hn2
          obtain ⟨cE0, cE1, cE2, cE3⟩ := cells4 bE_2
          have fE := frozen_of_heap bE_2
          have lE := heap_lt bE_2
          go_upto_region 17 with fail
          have hk3 : Kp (fun k => k = bo) w2 (w2.setCell ⟨bo, 0, none⟩ (.int .i64 y)) := (Kp.setCell (Kp.refl (fun k => k = bo) _) (.inl rfl) _)
          have bE_3 : (w2.setCell ⟨bo, 0, none⟩ (.int .i64 y)).heap[bo]? = some (.cells #[.int .i64 y, .slice (some ⟨g, 0, none⟩) 14 d, .slice a4 ya.length d4, .slice a5 yb.length d5] 31) := (setCell_heap bE_2 _)
          generalize (w2.setCell ⟨bo, 0, none⟩ (.int .i64 y)) = w3 at *
          have z3 := hk3.size
          have bR_3 := hk3.bo bR_2
          have oM_3 := Lib.hid (oM_2.out.kp hk3 (fun b e => by omega))
          have oX_3 := Lib.hid (oX_2.out.kb hk3 (fun b e => by omega))
          have K3 : One br w w3 := one_on K2 hk3 (by omega)
          have r3 := r2.kp hk3
          clear cE0 cE1 cE2 cE3 fE lE
          clear bR_2 bE_2 oM_2 oX_2 K2 r2 hk3
          obtain ⟨cE0, cE1, cE2, cE3⟩ := cells4 bE_3
          have lE := heap_lt bE_3
          obtain ⟨cR0, cR1, cR2, cR3⟩ := cells4 bR_3
          have fR := frozen_of_heap bR_3
          have lR := heap_lt bR_3
          go_wp2
          have hkz := setMany_kp (w.heap.size + 1) [.int .i64 y, .slice (some ⟨g, 0, none⟩) 14 d, .slice a4 ya.length d4, .slice a5 yb.length d5] w3 0
          have zs := setMany_size (w.heap.size + 1) [.int .i64 y, .slice (some ⟨g, 0, none⟩) 14 d, .slice a4 ya.length d4, .slice a5 yb.length d5] w3 0
          have hR := setMany_row [.int .i64 y, .slice (some ⟨g, 0, none⟩) 14 d, .slice a4 ya.length d4, .slice a5 yb.length d5] bR_3 rfl
          exact bodyPost_ret (results_cell_row rfl _ _ _ _ _ _ _ rfl hR Try.underlying31 rfl (by kernel_rfl)) rfl ⟨_, _, _, _, xs, _, _, q2 + 1 + 1, rfl, one_on K3 hkz (by omega), r3.keep hkz (fun b e => by omega), by omega, (show MachO (setMany w3 (w.heap.size + 1) 0 [.int .i64 y, .slice (some ⟨g, 0, none⟩) 14 d, .slice a4 ya.length d4, .slice a5 yb.length d5]) w.heap.size (setMany w3 (w.heap.size + 1) 0 [.int .i64 y, .slice (some ⟨g, 0, none⟩) 14 d, .slice a4 ya.length d4, .slice a5 yb.length d5]).heap.size _ _ _ _ _ _ from ⟨bo + 1, w3.heap.size, lo, bo, by omega, by omega, by omega, by omega, .inr (by omega), (OwnR.of (oX_3.out)).kp hkz (fun b e => by omega), oM_3.out.kp hkz (fun b e => by omega)⟩), by have := hlX.out; omega, by have := hy1h.out; omega, by have := hy2h.out; omega, hy3h.out, by omega⟩
        have hv0b : (v == 0) = false := by simpa using hv0
        by_cases hv1 : v = 1
        · subst hv1
          have hX : OwnF 1 encI w1 (bo + 1) 3 (.slice (some ⟨g, 0, none⟩) xs.length d) xs := by rw [hlX.out]; exact oX_1.out
          have hcap := hX.cap
          rw [hlX.out] at hcap
          obtain ⟨hc1, hc2⟩ := hcap
          have hT := Lib.hid (hX.take 13 (by have := hlX.out; omega))
          have hT3 : (13 : Int) ≤ d := by omega
          clear hX
          obtain ⟨cE0, cE1, cE2, cE3⟩ := cells4 bE_1
          have fE := frozen_of_heap bE_1
          have lE := heap_lt bE_1
          skip
          go_upto_region 17 with fail
          have hk2 : Kp (fun k => k = bo) w1 (w1.setCell ⟨bo, 1, none⟩ (.slice (some ⟨g, 0, none⟩) 13 d)) := (Kp.setCell (Kp.refl (fun k => k = bo) _) (.inl rfl) _)
          have bE_2 : (w1.setCell ⟨bo, 1, none⟩ (.slice (some ⟨g, 0, none⟩) 13 d)).heap[bo]? = some (.cells #[.int .i64 0, .slice (some ⟨g, 0, none⟩) 13 d, .slice a4 ya.length d4, .slice a5 yb.length d5] 31) := (setCell_heap bE_1 _)
          generalize (w1.setCell ⟨bo, 1, none⟩ (.slice (some ⟨g, 0, none⟩) 13 d)) = w2 at *
          have hTn := Lib.hid (hT.out.kb hk2 (fun b e => by omega))
          have z2 := hk2.size
          have bR_2 := hk2.bo bR_1
          have oM_2 := Lib.hid (oM_1.out.kp hk2 (fun b e => by omega))
          have oX_2 := Lib.hid (oX_1.out.kb hk2 (fun b e => by omega))
          have K2 : One br w w2 := one_on K1 hk2 (by omega)
          have r2 := r1.kp hk2
          clear cE0 cE1 cE2 cE3 fE lE
          clear bR_1 bE_1 oM_1 oX_1 K1 r1 hk2
          obtain ⟨cE0, cE1, cE2, cE3⟩ := cells4 bE_2
          have lE := heap_lt bE_2
          obtain ⟨cR0, cR1, cR2, cR3⟩ := cells4 bR_2
          have fR := frozen_of_heap bR_2
          have lR := heap_lt bR_2
          go_wp2
          have hkz := setMany_kp (w.heap.size + 1) [.int .i64 0, .slice (some ⟨g, 0, none⟩) 13 d, .slice a4 ya.length d4, .slice a5 yb.length d5] w2 0
          have zs := setMany_size (w.heap.size + 1) [.int .i64 0, .slice (some ⟨g, 0, none⟩) 13 d, .slice a4 ya.length d4, .slice a5 yb.length d5] w2 0
          have hR := setMany_row [.int .i64 0, .slice (some ⟨g, 0, none⟩) 13 d, .slice a4 ya.length d4, .slice a5 yb.length d5] bR_2 rfl
          exact bodyPost_ret (results_cell_row rfl _ _ _ _ _ _ _ rfl hR Try.underlying31 rfl (by kernel_rfl)) rfl ⟨_, _, _, _, (xs.take 13), _, _, q2 + 1, rfl, one_on K2 hkz (by omega), r2.keep hkz (fun b e => by omega), by omega, (show MachO (setMany w2 (w.heap.size + 1) 0 [.int .i64 0, .slice (some ⟨g, 0, none⟩) 13 d, .slice a4 ya.length d4, .slice a5 yb.length d5]) w.heap.size (setMany w2 (w.heap.size + 1) 0 [.int .i64 0, .slice (some ⟨g, 0, none⟩) 13 d, .slice a4 ya.length d4, .slice a5 yb.length d5]).heap.size _ _ _ _ _ _ from ⟨bo + 1, w2.heap.size, lo, bo, by omega, by omega, by omega, by omega, .inr (by omega), (OwnR.of (hTn.out)).kp hkz (fun b e => by omega), oM_2.out.kp hkz (fun b e => by omega)⟩), by simp; omega, by have := hy1h.out; omega, by have := hy2h.out; omega, hy3h.out, by omega⟩
        have hv1b : (v == 1) = false := by simpa using hv1
        by_cases hv2 : v = 2
        · subst hv2
          obtain ⟨cE0, cE1, cE2, cE3⟩ := cells4 bE_1
          have fE := frozen_of_heap bE_1
          have lE := heap_lt bE_1
          go_wp2_with fail
          refine wp_region_tail (k := 6) (S := fun w' => w'.cell? ⟨bo, 1, none⟩ = some (.slice (some ⟨g, 0, none⟩) 14 d)) (by kernel_rfl) ?_ (fun hHeld => ?_)
          · exact cE1
          clear cE0 cE1 cE2 cE3 fE lE
          have hn2 : New w1 w1.drew := (Kp.refl _ _).drew
          generalize w1.drew = w2 at *
          have z2 := hn2.size
          have bR_2 := hn2.bk bR_1
          have bE_2 := hn2.bk bE_1
          have oM_2 := Lib.hid (oM_1.out.new (by omega) hn2)
          have oX_2 := Lib.hid (oX_1.out.new hn2)
          have K2 := K1.nw hn2
          have r2 := r1.nw hn2
          clear bR_1 bE_1 oM_1 oX_1 K1 r1 hn2
          have cE1 := cell_of_heap bE_2 1
          have lE := heap_lt bE_2
          refine AnyK.tw 0 rfl ?_
          try simp only [AP]
          refine AnyK.tk 1 rfl ?_
          try simp only [AP]
          refine AnyK.tw 2 rfl ?_
          try simp only [AP]
          refine AnyK.step (i := 3) (by kernel_rfl) rfl (fun K hK => ?_)
          go_simp
          obtain ⟨hn3, y3, bN_3⟩ := newb w2 (.cells #[.int .i64 (-1), .int .i64 256] 3)
          generalize w2.alloc (.cells #[.int .i64 (-1), .int .i64 256] 3) = w3 at *
          have z3 := hn3.size
          have bR_3 := hn3.bk bR_2
          have bE_3 := hn3.bk bE_2
          have oM_3 := Lib.hid (oM_2.out.new (by omega) hn3)
          have oX_3 := Lib.hid (oX_2.out.new hn3)
          have K3 := K2.nw hn3
          have r3 := r2.nw hn3
          clear cE1 lE
          clear bR_2 bE_2 oM_2 oX_2 K2 r2 hn3
          have cE1 := cell_of_heap bE_3 1
          have lE := heap_lt bE_3
          refine hK.out _ _ ?_ (fun hHeld2 => ?_)
          · exact cE1
          clear hK K hHeld
          have hHeld := hHeld2
          clear hHeld2
          try simp only [AP]
          refine AnyK.step (i := 4) (by kernel_rfl) rfl (fun K hK => ?_)
          go_simp
          have hNc := Lib.hid (fun i : Nat => cell_of_heap bN_3 i)
          have hNl := heap_lt bN_3
          have hNr := r3.lt
          refine (num w3 br (q2 + 1) (w2.heap.size) 2 _ (fun x => -1 ≤ x ∧ x ≤ 256) r3 (by omega) (by omega) (by omega) (by omega) ?_).mono ?_
          · intro i hi
            have hi2 := hNc.out i
            match i, hi with
            | 0, _ => exact ⟨_, by decide, hi2⟩
            | 1, _ => exact ⟨_, by decide, hi2⟩
          rintro e w4 ⟨y, rfl, ⟨y0, y1⟩, hn4, r4⟩
          clear hNc hNl hNr bN_3
          have z4 := hn4.size
          have bR_4 := hn4.bo bR_3
          have bE_4 := hn4.bo bE_3
          have oM_4 := Lib.hid (oM_3.out.kp hn4 (fun b e => by omega))
          have oX_4 := Lib.hid (oX_3.out.kb hn4 (fun b e => by omega))
          have K4 := K3.trans hn4
          clear cE1 lE
          clear bR_3 bE_3 oM_3 oX_3 K3 r3 hn4
          have cE1 := cell_of_heap bE_4 1
          have lE := heap_lt bE_4
          refine hK.out _ _ ?_ (fun hHeld2 => ?_)
          · exact cE1
          clear hK K hHeld
          have hHeld := hHeld2
          clear hHeld2
          try simp only [AP]
          refine AnyK.tw 5 rfl ?_
          try simp only [AP]
          refine AnyK.last (by kernel_rfl) ?_
          simp only [List.drop_succ_cons, List.drop_zero]
          clear hHeld
          clear cE1 lE
          have hX : OwnF 1 encI w4 (bo + 1) 3 (.slice (some ⟨g, 0, none⟩) xs.length d) xs := by rw [hlX.out]; exact oX_4.out
          obtain ⟨-, _, ge, gc, gf⟩ := own_cells hX (by rw [hlX.out]; decide)
          cases ge
          obtain ⟨u, gc0⟩ : ∃ u : Int, w4.cell? ⟨g, 0, none⟩ = some (.int .i64 u) := ⟨_, gc 0 (by rw [hlX.out]; decide)⟩
          have gf0 := gf 0
          have gs := OwnF.set1 (enc := encI) hX 0 (by rw [hlX.out]; decide) y
          have gx := (hX.lt g (ownBlock_at _ _ _)).1
          rw [hlX.out] at gs
          have gsh := Lib.hid gs
          clear gs gc gf hX
          obtain ⟨cE0, cE1, cE2, cE3⟩ := cells4 bE_4
          have fE := frozen_of_heap bE_4
          have lE := heap_lt bE_4
          go_upto_region 17 with fail
          have hk5 : Kp (fun b => b = g) w4 (w4.setCell ⟨g, 0, none⟩ (.int .i64 y)) := (Kp.refl (fun b => b = g) _).setCell (.inl rfl) _
          have oX_5 := gsh
          generalize (w4.setCell ⟨g, 0, none⟩ (.int .i64 y)) = w5 at *
          clear gc0 gf0 gsh
          have z5 := hk5.size
          have bR_5 := hk5.bo bR_4
          have bE_5 := hk5.bo bE_4
          have oM_5 := Lib.hid (oM_4.out.kp hk5 (fun b e => by omega))
          have K5 : One br w w5 := one_on K4 hk5 (by omega)
          have r5 := r4.kp hk5
          clear cE0 cE1 cE2 cE3 fE lE
          clear bR_4 bE_4 oM_4 K4 r4 hk5
          clear oX_4
          obtain ⟨cE0, cE1, cE2, cE3⟩ := cells4 bE_5
          have lE := heap_lt bE_5
          obtain ⟨cR0, cR1, cR2, cR3⟩ := cells4 bR_5
          have fR := frozen_of_heap bR_5
          have lR := heap_lt bR_5
          go_wp2
          have hkz := setMany_kp (w.heap.size + 1) [.int .i64 0, .slice (some ⟨g, 0, none⟩) 14 d, .slice a4 ya.length d4, .slice a5 yb.length d5] w5 0
          have zs := setMany_size (w.heap.size + 1) [.int .i64 0, .slice (some ⟨g, 0, none⟩) 14 d, .slice a4 ya.length d4, .slice a5 yb.length d5] w5 0
          have hR := setMany_row [.int .i64 0, .slice (some ⟨g, 0, none⟩) 14 d, .slice a4 ya.length d4, .slice a5 yb.length d5] bR_5 rfl
          exact bodyPost_ret (results_cell_row rfl _ _ _ _ _ _ _ rfl hR Try.underlying31 rfl (by kernel_rfl)) rfl ⟨_, _, _, _, (xs.set 0 y), _, _, q2 + 1 + 1, rfl, one_on K5 hkz (by omega), r5.keep hkz (fun b e => by omega), by omega, (show MachO (setMany w5 (w.heap.size + 1) 0 [.int .i64 0, .slice (some ⟨g, 0, none⟩) 14 d, .slice a4 ya.length d4, .slice a5 yb.length d5]) w.heap.size (setMany w5 (w.heap.size + 1) 0 [.int .i64 0, .slice (some ⟨g, 0, none⟩) 14 d, .slice a4 ya.length d4, .slice a5 yb.length d5]).heap.size _ _ _ _ _ _ from ⟨bo + 1, w5.heap.size, lo, bo, by omega, by omega, by omega, by omega, .inr (by omega), (OwnR.of (oX_5.out)).kp hkz (fun b e => by omega), oM_5.out.kp hkz (fun b e => by omega)⟩), by have := hlX.out; simp; omega, by have := hy1h.out; omega, by have := hy2h.out; omega, hy3h.out, by omega⟩
        have hv2b : (v == 2) = false := by simpa using hv2
        by_cases hv3 : v = 3
        · subst hv3
          obtain ⟨tp, htp, hTop⟩ : ∃ tp, tp ≤ w1.heap.size ∧ ∀ b, (Value.slice (some ⟨g, 0, none⟩) 14 d).ownBlock = some b → b < tp := ⟨_, Nat.le_refl _, fun b e => (oX_1.out.lt b e).2⟩
          have htp2 : bo + 1 ≤ tp := by have := (oX_1.out.lt g (ownBlock_at _ _ _)).1; have := hTop g (ownBlock_at _ _ _); omega
          obtain ⟨cE0, cE1, cE2, cE3⟩ := cells4 bE_1
          have fE := frozen_of_heap bE_1
          have lE := heap_lt bE_1
          go_wp2_with fail
          have hMr := oM_1.out.reads
          refine (DrawM.l3Bend w1 br (q2 + 1) nv na lo bo _ _ ya yb r1 hMr.1 hMr.2 (by omega) hy1h.out hy2h.out (by omega) (by omega) hy3h.out (by omega)).mono ?_
          rintro e w2 ⟨u1, u2, za, zb, q3, rfl, hn2, r2, hq3, hM1, hz1, hz2, hz3⟩
          clear hMr
          have z2 := hn2.size
          have bR_2 := hn2.bo bR_1
          have bE_2 := hn2.bo bE_1
          have oM_2 := Lib.hid (oM_1.out.kp hn2 (fun b e => by omega))
          have oX_2 := Lib.hid (oX_1.out.kb hn2 (fun b e => by omega))
          have K2 := K1.trans hn2
          clear cE0 cE1 cE2 cE3 fE lE
          clear bR_1 bE_1 oM_1 oX_1 K1 r1 hn2
          obtain ⟨cE0, cE1, cE2, cE3⟩ := cells4 bE_2
          have fE := frozen_of_heap bE_2
          have lE := heap_lt bE_2
          obtain ⟨⟨a6, d6, rfl⟩, a7, d7, rfl⟩ := hM1.lens
          have hM1h := Lib.hid hM1
          have hz1h := Lib.hid hz1
          have hz2h := Lib.hid hz2
          have hz3h := Lib.hid hz3
          clear hM1 hz1 hz2 hz3
          go_wp2_with fail
          have hMr := hM1h.out.reads
          refine (DrawM.l3Bend w2 br q3 (nv + 1) na w1.heap.size w2.heap.size _ _ za zb r2 hMr.1 hMr.2 (Nat.le_refl _) hz1h.out hz2h.out (by omega) (by omega) hz3h.out (by omega)).mono ?_
          rintro e w3 ⟨u3, u4, ta, tb, q4, rfl, hn3, r3, hq4, hM2, ht1, ht2, ht3⟩
          clear hMr hM1h
          have z3 := hn3.size
          have bR_3 := hn3.bo bR_2
          have bE_3 := hn3.bo bE_2
          have oM_3 := Lib.hid (oM_2.out.kp hn3 (fun b e => by omega))
          have oX_3 := Lib.hid (oX_2.out.kb hn3 (fun b e => by omega))
          have K3 := K2.trans hn3
          clear cE0 cE1 cE2 cE3 fE lE
          clear bR_2 bE_2 oM_2 oX_2 K2 r2 hn3
          obtain ⟨⟨a8, d8, rfl⟩, a9, d9, rfl⟩ := hM2.lens
          have oQ_3 := Lib.hid hM2
          have ht1h := Lib.hid ht1
          have ht2h := Lib.hid ht2
          have ht3h := Lib.hid ht3
          clear hM2 ht1 ht2 ht3
          have hq0 : w2.heap.size ≤ w3.heap.size := z3
          obtain ⟨cE0, cE1, cE2, cE3⟩ := cells4 bE_3
          have fE := frozen_of_heap bE_3
          have lE := heap_lt bE_3
          go_upto_region 17 with fail
          have hk4 : Kp (fun k => k = bo) w3 ((w3.setCell ⟨bo, 2, none⟩ (.slice a8 ta.length d8)).setCell ⟨bo, 3, none⟩ (.slice a9 tb.length d9)) := (Kp.setCell (Kp.setCell (Kp.refl (fun k => k = bo) _) (.inl rfl) _) (.inl rfl) _)
          have bE_4 : ((w3.setCell ⟨bo, 2, none⟩ (.slice a8 ta.length d8)).setCell ⟨bo, 3, none⟩ (.slice a9 tb.length d9)).heap[bo]? = some (.cells #[.int .i64 0, .slice (some ⟨g, 0, none⟩) 14 d, .slice a8 ta.length d8, .slice a9 tb.length d9] 31) := (setCell_heap (setCell_heap bE_3 _) _)
          generalize ((w3.setCell ⟨bo, 2, none⟩ (.slice a8 ta.length d8)).setCell ⟨bo, 3, none⟩ (.slice a9 tb.length d9)) = w4 at *
          have z4 := hk4.size
          have bR_4 := hk4.bo bR_3
          have oM_4 := Lib.hid (oM_3.out.kp hk4 (fun b e => by omega))
          have oX_4 := Lib.hid (oX_3.out.kb hk4 (fun b e => by omega))
          have oQ_4 := Lib.hid (oQ_3.out.kp hk4 (fun b e => by omega))
          have K4 : One br w w4 := one_on K3 hk4 (by omega)
          have r4 := r3.kp hk4
          clear cE0 cE1 cE2 cE3 fE lE
          clear bR_3 bE_3 oM_3 oX_3 oQ_3 K3 r3 hk4
          obtain ⟨cE0, cE1, cE2, cE3⟩ := cells4 bE_4
          have lE := heap_lt bE_4
          obtain ⟨cR0, cR1, cR2, cR3⟩ := cells4 bR_4
          have fR := frozen_of_heap bR_4
          have lR := heap_lt bR_4
          go_wp2
          have hkz := setMany_kp (w.heap.size + 1) [.int .i64 0, .slice (some ⟨g, 0, none⟩) 14 d, .slice a8 ta.length d8, .slice a9 tb.length d9] w4 0
          have zs := setMany_size (w.heap.size + 1) [.int .i64 0, .slice (some ⟨g, 0, none⟩) 14 d, .slice a8 ta.length d8, .slice a9 tb.length d9] w4 0
          have hR := setMany_row [.int .i64 0, .slice (some ⟨g, 0, none⟩) 14 d, .slice a8 ta.length d8, .slice a9 tb.length d9] bR_4 rfl
          exact bodyPost_ret (results_cell_row rfl _ _ _ _ _ _ _ rfl hR Try.underlying31 rfl (by kernel_rfl)) rfl ⟨_, _, _, _, xs, _, _, q4, rfl, one_on K4 hkz (by omega), r4.keep hkz (fun b e => by omega), by omega, (show MachO (setMany w4 (w.heap.size + 1) 0 [.int .i64 0, .slice (some ⟨g, 0, none⟩) 14 d, .slice a8 ta.length d8, .slice a9 tb.length d9]) w.heap.size (setMany w4 (w.heap.size + 1) 0 [.int .i64 0, .slice (some ⟨g, 0, none⟩) 14 d, .slice a8 ta.length d8, .slice a9 tb.length d9]).heap.size _ _ _ _ _ _ from ⟨bo + 1, tp, w2.heap.size, w3.heap.size, by omega, by omega, by omega, by omega, .inl (by omega), (OwnR.mk oX_4.out hTop).kp hkz (fun b e => by omega), oQ_4.out.kp hkz (fun b e => by omega)⟩), by have := hlX.out; omega, by have := ht1h.out; omega, by have := ht2h.out; omega, ht3h.out, by omega⟩
        · have hv3b : (v == 3) = false := by simpa using hv3
          obtain ⟨cE0, cE1, cE2, cE3⟩ := cells4 bE_1
          have lE := heap_lt bE_1
          obtain ⟨cR0, cR1, cR2, cR3⟩ := cells4 bR_1
          have fR := frozen_of_heap bR_1
          have lR := heap_lt bR_1
          go_wp2
          have hkz := setMany_kp (w.heap.size + 1) [.int .i64 0, .slice (some ⟨g, 0, none⟩) 14 d, .slice a4 ya.length d4, .slice a5 yb.length d5] w1 0
          have zs := setMany_size (w.heap.size + 1) [.int .i64 0, .slice (some ⟨g, 0, none⟩) 14 d, .slice a4 ya.length d4, .slice a5 yb.length d5] w1 0
          have hR := setMany_row [.int .i64 0, .slice (some ⟨g, 0, none⟩) 14 d, .slice a4 ya.length d4, .slice a5 yb.length d5] bR_1 rfl
          exact bodyPost_ret (results_cell_row rfl _ _ _ _ _ _ _ rfl hR Try.underlying31 rfl (by kernel_rfl)) rfl ⟨_, _, _, _, xs, _, _, q2 + 1, rfl, one_on K1 hkz (by omega), r1.keep hkz (fun b e => by omega), by omega, (show MachO (setMany w1 (w.heap.size + 1) 0 [.int .i64 0, .slice (some ⟨g, 0, none⟩) 14 d, .slice a4 ya.length d4, .slice a5 yb.length d5]) w.heap.size (setMany w1 (w.heap.size + 1) 0 [.int .i64 0, .slice (some ⟨g, 0, none⟩) 14 d, .slice a4 ya.length d4, .slice a5 yb.length d5]).heap.size _ _ _ _ _ _ from ⟨bo + 1, w1.heap.size, lo, bo, by omega, by omega, by omega, by omega, .inr (by omega), (OwnR.of (oX_1.out)).kp hkz (fun b e => by omega), oM_1.out.kp hkz (fun b e => by omega)⟩), by have := hlX.out; omega, by have := hy1h.out; omega, by have := hy2h.out; omega, hy3h.out, by omega⟩
end Go.Proofs.Ytljokgoghphgdaa.DrawN
