/- Draws of programs. Condition: fewer than 2^40 picks so far. -/
import Derived.Test.YtckikiaockkmbaaDoorXDrawP
import Derived.Test.YtckikiaockkmbaaDoorXP4
import Derived.Test.YtckikiaockkmbaaDoorXP2
import Derived.Test.YtckikiaockkmbaaDoorXP1
namespace Go.Proofs.YtckikiaockkmbaaDoor
open Go.RowKit Kit
set_option linter.unusedVariables false
theorem OwnF.kb {α : Type} {n : Nat} {enc : α → Nat → Value} {w w' : World} {base : Nat} {T : TypeId} {v : Value} {xs : List α} (h : OwnF n enc w base T v xs) {S : Nat → Prop} (k : Kp S w w') (hs : ∀ b, S b → b < base) : OwnF n enc w' base T v xs :=
  h.kp k fun b e hS => by have := (h.lt b e).1; have := hs b hS; omega
theorem ints2 {w : World} {b : Nat} {x y : Int} {T : TypeId} (h : w.heap[b]? = some (.cells #[.int .i64 x, .int .i64 y] T (0, 0))) : IntsR w b (b + 1) (.slice (some ⟨b, 0, none⟩) 2 2) [x, y] :=
  .cons b 0 2 [x, y] (by simp) (Nat.le_refl _) (by omega) (by simp) (by omega) fun i hi t ht => by
    obtain rfl : t = 0 := by omega
    match i, hi with
    | 0, _ => exact cell_of_heap h 0
    | 1, _ => exact cell_of_heap h 1
theorem sts1 {w : World} {b : Nat} {k t ik iv vk vv c : Int} {T : TypeId} (h : w.heap[b]? = some (.cells #[.int .i64 k, .int .i64 t, .int .i64 ik, .int .i64 iv, .slice none 0 0, .int .i64 vk, .int .i64 vv, .slice none 0 0, .int .i64 c, .slice none 0 0, .slice none 0 0] T (0, 0))) :
    StsR w b (b + 1) (.slice (some ⟨b, 0, none⟩) 1 1) [.node k t (.node ik iv []) (.node vk vv []) c [] []] := by
  have hc := fun o => cell_of_heap h o
  refine .cons b 0 1 [.node k t (.node ik iv []) (.node vk vv []) c [] []] (fun _ => .slice none 0 0) (fun _ => .slice none 0 0) (fun _ => .slice none 0 0) (fun _ => .slice none 0 0) (by simp) (Nat.le_refl _) (by omega) (by simp) (by omega) ?_ ?_ ?_ ?_ ?_ ?_ ?_ ?_ ?_ ?_ ?_ ?_ ?_ ?_ ?_
  all_goals
    intro i hi
    obtain rfl : i = 0 := by simpa using hi
  · exact hc 0
  · exact hc 1
  · exact hc 2
  · exact hc 3
  · exact hc 4
  · exact hc 5
  · exact hc 6
  · exact hc 7
  · exact hc 8
  · exact hc 9
  · exact hc 10
  · exact .nil _ _
  · exact .nil _ _
  · exact .nil _ _
  · exact .nil _ _
end Go.Proofs.YtckikiaockkmbaaDoor
namespace Go.Proofs.YtckikiaockkmbaaDoor.DrawG
open Go.RowKit Kit Draw DrawX
set_option linter.unusedVariables false
theorem sp3 : DrawP.sp 3 = 760400 := by decide
theorem ss3 : DrawP.ss 3 = 152100 := by decide
/-- a program drawn by at most 3100000 picks -/
def GotP (w : World) (br p : Nat) (e : Ending) (w' : World) : Prop := ∃ (a1 a2 a3 : Option Addr) (d1 d2 d3 : Nat) (xa xb : List Int) (l : List St) (q : Nat), e = .returned (.agg #[.slice a1 xa.length d1, .slice a2 xb.length d2, .slice a3 l.length d3]) ∧ One br w w' ∧ Rd w' br q ∧ q ≤ p + 3100000 ∧
  IntsR w' w.heap.size w'.heap.size (.slice a1 xa.length d1) xa ∧ IntsR w' w.heap.size w'.heap.size (.slice a2 xb.length d2) xb ∧ StsR w' w.heap.size w'.heap.size (.slice a3 l.length d3) l ∧ xa.length ≤ 5 ∧ xb.length ≤ 2 ∧ St.sizes l ≤ 608400 ∧ (∀ x ∈ xa, 0 ≤ x ∧ x ≤ 3) ∧ ∀ x ∈ xb, 0 ≤ x ∧ x ≤ 3
def L1 (w : World) (br p m : Nat) (wr : World) : Prop := ∃ (xs : List Int) (a : Option Addr) (d q : Nat), xs.length = m ∧ One br w wr ∧ Rd wr br q ∧ q ≤ p + 1 + m ∧ wr.heap[w.heap.size]? = some (.cells #[.slice none 0 0, .slice none 0 0, .slice none 0 0] 41 (0, 0)) ∧ wr.heap[w.heap.size + 1]? = some (.cells #[.slice a m d, .slice none 0 0, .slice none 0 0] 41 (0, 0)) ∧
  OwnF 1 encI wr (w.heap.size + 2) 3 (.slice a m d) xs ∧ ∀ x ∈ xs, 0 ≤ x ∧ x ≤ 3
def L2 (w : World) (br p : Nat) (xs : List Int) (a : Option Addr) (d s1 m : Nat) (wr : World) : Prop := ∃ (ys : List Int) (b : Option Addr) (t q : Nat), ys.length = m ∧ One br w wr ∧ Rd wr br q ∧ q ≤ p + 10 + m ∧ wr.heap[w.heap.size]? = some (.cells #[.slice none 0 0, .slice none 0 0, .slice none 0 0] 41 (0, 0)) ∧ wr.heap[w.heap.size + 1]? = some (.cells #[.slice a xs.length d, .slice b m t, .slice none 0 0] 41 (0, 0)) ∧
  IntsR wr (w.heap.size + 2) s1 (.slice a xs.length d) xs ∧ OwnF 1 encI wr s1 3 (.slice b m t) ys ∧ (∀ x ∈ ys, 0 ≤ x ∧ x ≤ 3) ∧ s1 ≤ wr.heap.size
set_option maxHeartbeats 16000000 in
set_option maxRecDepth 100000 in
theorem l2Program (w : World) (br p : Nat) (h : Rd w br p) (hp : p + 3200000 < 1099511627776) :
    Calls Tryd.prog 57 #[.pointer (some ⟨br, 0, none⟩)] w (GotP w br p) := by
  have hbl := h.lt
  go_enter Tryd.func57, Tryd.ntmps57
  go_upto_region 2 with fail
  have N0 : New w ((w.alloc (.cells #[.slice none 0 0, .slice none 0 0, .slice none 0 0] 41)).alloc (.cells #[.slice none 0 0, .slice none 0 0, .slice none 0 0] 41)) := ((Kp.refl _ _).alloc _).alloc _
  have bR_0 : ((w.alloc (.cells #[.slice none 0 0, .slice none 0 0, .slice none 0 0] 41)).alloc (.cells #[.slice none 0 0, .slice none 0 0, .slice none 0 0] 41)).heap[w.heap.size]? = some (.cells #[.slice none 0 0, .slice none 0 0, .slice none 0 0] 41) := heap_old (alloc_heap _ _)
  have bE_0 : ((w.alloc (.cells #[.slice none 0 0, .slice none 0 0, .slice none 0 0] 41)).alloc (.cells #[.slice none 0 0, .slice none 0 0, .slice none 0 0] 41)).heap[w.heap.size + 1]? = some (.cells #[.slice none 0 0, .slice none 0 0, .slice none 0 0] 41) := heap_at (by simp)
  have z0 : w.heap.size + 1 < ((w.alloc (.cells #[.slice none 0 0, .slice none 0 0, .slice none 0 0] 41)).alloc (.cells #[.slice none 0 0, .slice none 0 0, .slice none 0 0] 41)).heap.size := by simp
  generalize ((w.alloc (.cells #[.slice none 0 0, .slice none 0 0, .slice none 0 0] 41)).alloc (.cells #[.slice none 0 0, .slice none 0 0, .slice none 0 0] 41)) = w0 at *
  have r0 := h.nw N0
  have K0 : One br w w0 := N0.mono (fun _ _ f => f.elim)
  clear N0 h
  go_wp2_with fail
  have hNr := r0.lt
  refine (num _ br (p) _ 4 _ (fun x => 0 ≤ x ∧ x ≤ 5) (r0.keep (S := fun _ => False) ((Kp.refl _ _).alloc _) (fun _ f => f.elim)) (by omega) (by omega) (by omega) (by omega) ?_).mono ?_
  · intro i hi
    match i, hi with
    | 0, _ => exact ⟨_, by decide, World.cell?_alloc_new _ _ _ _⟩
    | 1, _ => exact ⟨_, by decide, World.cell?_alloc_new _ _ _ _⟩
    | 2, _ => exact ⟨_, by decide, World.cell?_alloc_new _ _ _ _⟩
    | 3, _ => exact ⟨_, by decide, World.cell?_alloc_new _ _ _ _⟩
  rintro e w1 ⟨n, rfl, ⟨n0, n1⟩, k1, r1⟩
  have hn1 : One br w0 w1 := ((Kp.refl (fun k => k = br) w0).alloc _).trans k1
  clear k1 hNr
  have z1 := hn1.size
  have bR_1 := hn1.bo bR_0
  have bE_1 := hn1.bo bE_0
  have K1 := K0.trans hn1
  clear bR_0 bE_0 K0 r0 hn1
  obtain ⟨n, rfl⟩ : ∃ nn : Nat, n = nn := ⟨n.toNat, by omega⟩
  have hL : L1 w br p 0 w1 := ⟨[], none, 0, p + 1, rfl, K1, r1, by omega, bR_1, bE_1, (OwnF.nil _ _ _), by simp⟩
  have hLh := Lib.hid hL
  clear hL K1 r1 bR_1 bE_1
  go_wp2_with fail
  go_loopw [4] (fun i wr => ∃ j : Nat, j ≤ n ∧ i = .int .i64 j ∧ L1 w br p (n - j) wr) (fun i _ => (intOf i).toNat)
  case atStart => exact ⟨n, Nat.le_refl _, rfl, by rw [Nat.sub_self]; exact hLh.out⟩
  case round =>
    obtain ⟨j, hj, rfl, xs, a, d, q, hl, K0, r0, hq, bR_0, bE_0, hO, hx⟩ := hrel
    clear hLh
    have oX_0 := Lib.hid hO
    have hlX := Lib.hid hl
    have hxh := Lib.hid hx
    have zw := K0.size
    have zE := heap_lt bE_0
    have hbr := r0.lt
    clear hl hO hx
    by_cases hlt : 0 < j
    · obtain ⟨m, hm⟩ : ∃ m, n - j = m := ⟨_, rfl⟩
      rw [hm] at hq bE_0 oX_0 hlX
      have hm2h := Lib.hid (show n - (j - 1) = m + 1 by omega)
      have hm3 : m ≤ 5 := by omega
      clear hm
      have cE0 := cell_of_heap bE_0 0
      have lE := heap_lt bE_0
      go_wp2_with fail
      refine wp_region_tail (k := 8) (S := fun w' => w'.cell? ⟨w.heap.size + 1, 0, none⟩ = some (.slice a m d)) (by kernel_rfl) ?_ (fun hHeld => ?_)
      · exact cE0
      clear cE0 lE
      have hn1 : New wr wr.drew := (Kp.refl _ _).drew
      generalize wr.drew = w1 at *
      have z1 := hn1.size
      have bR_1 := hn1.bk bR_0
      have bE_1 := hn1.bk bE_0
      have oX_1 := Lib.hid (oX_0.out.new hn1)
      have K1 := K0.nw hn1
      have r1 := r0.nw hn1
      clear bR_0 bE_0 oX_0 K0 r0 hn1
      have cE0 := cell_of_heap bE_1 0
      have lE := heap_lt bE_1
      refine AnyK.tw 0 rfl ?_
      try simp only [AP]
      refine AnyK.tk 1 rfl ?_
      try simp only [AP]
      refine AnyK.tw 2 rfl ?_
      try simp only [AP]
      refine AnyK.step (i := 3) (by kernel_rfl) rfl (fun K hK => ?_)
      go_simp
      obtain ⟨hn2, y2, bN_2⟩ := newb w1 (.cells #[.int .i64 0, .int .i64 1, .int .i64 0, .int .i64 1, .int .i64 2, .int .i64 3] 3)
      generalize w1.alloc (.cells #[.int .i64 0, .int .i64 1, .int .i64 0, .int .i64 1, .int .i64 2, .int .i64 3] 3) = w2 at *
      have z2 := hn2.size
      have bR_2 := hn2.bk bR_1
      have bE_2 := hn2.bk bE_1
      have oX_2 := Lib.hid (oX_1.out.new hn2)
      have K2 := K1.nw hn2
      have r2 := r1.nw hn2
      clear cE0 lE
      clear bR_1 bE_1 oX_1 K1 r1 hn2
      have cE0 := cell_of_heap bE_2 0
      have lE := heap_lt bE_2
      refine hK.out _ _ ?_ (fun hHeld2 => ?_)
      · exact cE0
      clear hK K hHeld
      have hHeld := hHeld2
      clear hHeld2
      try simp only [AP]
      refine AnyK.step (i := 4) (by kernel_rfl) rfl (fun K hK => ?_)
      go_simp
      have hNc := Lib.hid (fun i : Nat => cell_of_heap bN_2 i)
      have hNl := heap_lt bN_2
      have hNr := r2.lt
      refine (num w2 br (q) (w1.heap.size) 6 _ (fun x => 0 ≤ x ∧ x ≤ 3) r2 (by omega) (by omega) (by omega) (by omega) ?_).mono ?_
      · intro i hi
        have hi2 := hNc.out i
        match i, hi with
        | 0, _ => exact ⟨_, by decide, hi2⟩
        | 1, _ => exact ⟨_, by decide, hi2⟩
        | 2, _ => exact ⟨_, by decide, hi2⟩
        | 3, _ => exact ⟨_, by decide, hi2⟩
        | 4, _ => exact ⟨_, by decide, hi2⟩
        | 5, _ => exact ⟨_, by decide, hi2⟩
      rintro e w3 ⟨x, rfl, ⟨x0, x1⟩, hn3, r3⟩
      clear hNc hNl hNr bN_2
      have z3 := hn3.size
      have bR_3 := hn3.bo bR_2
      have bE_3 := hn3.bo bE_2
      have oX_3 := Lib.hid (oX_2.out.kb hn3 (fun b e => by omega))
      have K3 := K2.trans hn3
      clear cE0 lE
      clear bR_2 bE_2 oX_2 K2 r2 hn3
      have cE0 := cell_of_heap bE_3 0
      have lE := heap_lt bE_3
      refine hK.out _ _ ?_ (fun hHeld2 => ?_)
      · exact cE0
      clear hK K hHeld
      have hHeld := hHeld2
      clear hHeld2
      try simp only [AP]
      refine AnyK.step (i := 5) (by kernel_rfl) rfl (fun K hK => ?_)
      go_simp
      obtain ⟨hn4, y4, bV_4⟩ := newb w3 (.cells #[.int .i64 x] 3)
      generalize w3.alloc (.cells #[.int .i64 x] 3) = w4 at *
      have z4 := hn4.size
      have bR_4 := hn4.bk bR_3
      have bE_4 := hn4.bk bE_3
      have oX_4 := Lib.hid (oX_3.out.new hn4)
      have K4 := K3.nw hn4
      have r4 := r3.nw hn4
      clear cE0 lE
      clear bR_3 bE_3 oX_3 K3 r3 hn4
      have cE0 := cell_of_heap bE_4 0
      have lE := heap_lt bE_4
      refine hK.out _ _ ?_ (fun hHeld2 => ?_)
      · exact cE0
      clear hK K hHeld
      have hHeld := hHeld2
      clear hHeld2
      try simp only [AP]
      refine AnyK.step (i := 6) (by kernel_rfl) rfl (fun K hK => ?_)
      refine step_pushes rfl (.tmp 15) (.tmp 19) 29 rfl (w.heap.size + 2) 3 _ _ Tryd.underlying29 LawF.infoI rfl (by decide) (.slice a m d) xs rfl oX_4.out _ [x] rfl (FlR.one (b := w3.heap.size) fun t ht => ?_) ?_ ?_ ?_ ?_ ?_
      · obtain rfl : t = 0 := by omega
        exact cell_of_heap bV_4 0
      · intro y hy t
        rw [List.mem_singleton] at hy
        subst hy
        exact oneI _ _
      · have := hlX.out; simp; omega
      · have := hlX.out; simp; omega
      · omega
      intro v5 w5 hv5 hp5 ha5
      have hlt5 := oX_4.out.lt
      have hk5 : Kp (fun b => w.heap.size + 2 ≤ b) w4 w5 := hp5.mono fun b _ e => (hlt5 b e).1
      obtain ⟨a', d', e5, _⟩ := hv5.reads.len
      have hm5 : (xs ++ [x]).length = m + 1 := by simp [hlX.out]
      rw [hm5] at e5
      subst e5
      have oX_5 := Lib.hid hv5
      clear hlX
      have hlX := Lib.hid hm5
      clear hv5 hp5 ha5 hlt5 hm5 oX_4 bV_4
      have z5 := hk5.size
      have bR_5 := hk5.bo bR_4
      have bE_5 := hk5.bo bE_4
      have K5 : One br w w5 := one_new K4 hk5 (fun b e => by omega)
      have r5 := r4.keep hk5 (fun i e => by omega)
      clear cE0 lE
      clear bR_4 bE_4 K4 r4 hk5
      have cE0 := cell_of_heap bE_5 0
      have lE := heap_lt bE_5
      refine hK.out _ _ ?_ (fun hHeld2 => ?_)
      · exact cE0
      clear hK K hHeld
      have hHeld := hHeld2
      clear hHeld2
      try simp only [AP]
      refine AnyK.tw 7 rfl ?_
      try simp only [AP]
      refine AnyK.last (by kernel_rfl) ?_
      simp only [List.drop_succ_cons, List.drop_zero]
      clear hHeld
      clear cE0 lE
      obtain ⟨cE0, cE1, cE2⟩ := cells3 bE_5
      have fE := frozen_of_heap bE_5
      have lE := heap_lt bE_5
      have lR := heap_lt bR_5
      have kz : One (w.heap.size + 1) w5 (w5.setCell ⟨w.heap.size + 1, 0, none⟩ (.slice a' (m + 1) d')) := (Kp.refl (fun k => k = w.heap.size + 1) _).setCell (.inl rfl) _
      have zz := kz.size
      have hL : L1 w br p (m + 1) (w5.setCell ⟨w.heap.size + 1, 0, none⟩ (.slice a' (m + 1) d')) := ⟨xs ++ [x], a', d', q + 1, hlX.out, one_on K5 kz (by omega), r5.keep kz (fun b e => by omega), by omega, heap_set bR_5 (by omega) _, setCell_heap bE_5 _, oX_5.out.kb kz (fun b e => by omega), fun y hy => by
        rcases List.mem_append.1 hy with g | g
        · exact hxh.out y g
        · rw [List.mem_singleton] at g; subst g; exact ⟨x0, x1⟩⟩
      have hLh := Lib.hid hL
      clear hL oX_5 K5 r5 kz bR_5 hxh
      go_wp2
      go_roundw
      case rel => exact ⟨j - 1, by omega, by go_num, by rw [hm2h.out]; exact hLh.out⟩
      case measure => simp [intOf]; omega
    · obtain rfl : j = 0 := by omega
      rw [Nat.sub_zero] at hq bE_0 oX_0 hlX
      have hlq := hlX.out
      clear hlt hj
      subst hlq
      have oA_0 := Lib.hid oX_0.out.reads
      clear oX_0
      go_wp2_with fail
      have hNr := r0.lt
      refine (num _ br (q) _ 4 _ (fun x => 0 ≤ x ∧ x ≤ 2) (r0.keep (S := fun _ => False) ((Kp.refl _ _).alloc _) (fun _ f => f.elim)) (by omega) (by omega) (by omega) (by omega) ?_).mono ?_
      · intro i hi
        match i, hi with
        | 0, _ => exact ⟨_, by decide, World.cell?_alloc_new _ _ _ _⟩
        | 1, _ => exact ⟨_, by decide, World.cell?_alloc_new _ _ _ _⟩
        | 2, _ => exact ⟨_, by decide, World.cell?_alloc_new _ _ _ _⟩
        | 3, _ => exact ⟨_, by decide, World.cell?_alloc_new _ _ _ _⟩
      rintro e w1 ⟨n2, rfl, ⟨n20, n21⟩, k1, r1⟩
      have hn1 : One br wr w1 := ((Kp.refl (fun k => k = br) wr).alloc _).trans k1
      clear k1 hNr
      have z1 := hn1.size
      have bR_1 := hn1.bo bR_0
      have bE_1 := hn1.bo bE_0
      have oA_1 := Lib.hid (oA_0.out.kp hn1 (by omega) (fun b e => by omega))
      have K1 := K0.trans hn1
      clear bR_0 bE_0 oA_0 K0 r0 hn1
      obtain ⟨n2, rfl⟩ : ∃ nn : Nat, n2 = nn := ⟨n2.toNat, by omega⟩
      have hL : L2 w br p xs a d wr.heap.size 0 w1 := ⟨[], none, 0, q + 1, rfl, K1, r1, by omega, bR_1, bE_1, oA_1.out, OwnF.nil _ _ _, by simp, z1⟩
      have hLh := Lib.hid hL
      clear hL K1 r1 bR_1 bE_1 oA_1
      go_wp2_with fail
      have hs1 : w.heap.size + 2 ≤ wr.heap.size := by omega
      generalize wr.heap.size = s1 at *
      clear z1 zE
      go_loopw [5] (fun i wr => ∃ j : Nat, j ≤ n2 ∧ i = .int .i64 j ∧ L2 w br p xs a d s1 (n2 - j) wr) (fun i _ => (intOf i).toNat)
      case atStart => exact ⟨n2, Nat.le_refl _, rfl, by rw [Nat.sub_self]; exact hLh.out⟩
      case round =>
        clear hq zw hbr
        obtain ⟨j, hj, rfl, ys, b, t, q, hl, K0, r0, hq, bR_0, bE_0, hA, hO, hy, hs2⟩ := hrel
        clear hLh
        have oA_0 := Lib.hid hA
        have oX_0 := Lib.hid hO
        have hlX := Lib.hid hl
        have hyh := Lib.hid hy
        have zw := K0.size
        have zE := heap_lt bE_0
        have hbr := r0.lt
        clear hl hO hy hA
        by_cases hlt : 0 < j
        · obtain ⟨m, hm⟩ : ∃ m, n2 - j = m := ⟨_, rfl⟩
          rw [hm] at hq bE_0 oX_0 hlX
          have hm2h := Lib.hid (show n2 - (j - 1) = m + 1 by omega)
          have hm3 : m ≤ 2 := by omega
          clear hm
          have cE1 := cell_of_heap bE_0 1
          have lE := heap_lt bE_0
          go_wp2_with fail
          refine wp_region_tail (k := 8) (S := fun w' => w'.cell? ⟨w.heap.size + 1, 1, none⟩ = some (.slice b m t)) (by kernel_rfl) ?_ (fun hHeld => ?_)
          · exact cE1
          clear cE1 lE
          have hn1 : New wr wr.drew := (Kp.refl _ _).drew
          generalize wr.drew = w1 at *
          have z1 := hn1.size
          have bR_1 := hn1.bk bR_0
          have bE_1 := hn1.bk bE_0
          have oA_1 := Lib.hid (oA_0.out.new (by omega) hn1)
          have oX_1 := Lib.hid (oX_0.out.new hn1)
          have K1 := K0.nw hn1
          have r1 := r0.nw hn1
          clear bR_0 bE_0 oA_0 oX_0 K0 r0 hn1
          have cE1 := cell_of_heap bE_1 1
          have lE := heap_lt bE_1
          refine AnyK.tw 0 rfl ?_
          try simp only [AP]
          refine AnyK.tk 1 rfl ?_
          try simp only [AP]
          refine AnyK.tw 2 rfl ?_
          try simp only [AP]
          refine AnyK.step (i := 3) (by kernel_rfl) rfl (fun K hK => ?_)
          go_simp
          obtain ⟨hn2, y2, bN_2⟩ := newb w1 (.cells #[.int .i64 0, .int .i64 1, .int .i64 0, .int .i64 1, .int .i64 3] 3)
          generalize w1.alloc (.cells #[.int .i64 0, .int .i64 1, .int .i64 0, .int .i64 1, .int .i64 3] 3) = w2 at *
          have z2 := hn2.size
          have bR_2 := hn2.bk bR_1
          have bE_2 := hn2.bk bE_1
          have oA_2 := Lib.hid (oA_1.out.new (by omega) hn2)
          have oX_2 := Lib.hid (oX_1.out.new hn2)
          have K2 := K1.nw hn2
          have r2 := r1.nw hn2
          clear cE1 lE
          clear bR_1 bE_1 oA_1 oX_1 K1 r1 hn2
          have cE1 := cell_of_heap bE_2 1
          have lE := heap_lt bE_2
          refine hK.out _ _ ?_ (fun hHeld2 => ?_)
          · exact cE1
          clear hK K hHeld
          have hHeld := hHeld2
          clear hHeld2
          try simp only [AP]
          refine AnyK.step (i := 4) (by kernel_rfl) rfl (fun K hK => ?_)
          go_simp
          have hNc := Lib.hid (fun i : Nat => cell_of_heap bN_2 i)
          have hNl := heap_lt bN_2
          have hNr := r2.lt
          refine (num w2 br (q) (w1.heap.size) 5 _ (fun x => 0 ≤ x ∧ x ≤ 3) r2 (by omega) (by omega) (by omega) (by omega) ?_).mono ?_
          · intro i hi
            have hi2 := hNc.out i
            match i, hi with
            | 0, _ => exact ⟨_, by decide, hi2⟩
            | 1, _ => exact ⟨_, by decide, hi2⟩
            | 2, _ => exact ⟨_, by decide, hi2⟩
            | 3, _ => exact ⟨_, by decide, hi2⟩
            | 4, _ => exact ⟨_, by decide, hi2⟩
          rintro e w3 ⟨x, rfl, ⟨x0, x1⟩, hn3, r3⟩
          clear hNc hNl hNr bN_2
          have z3 := hn3.size
          have bR_3 := hn3.bo bR_2
          have bE_3 := hn3.bo bE_2
          have oA_3 := Lib.hid (oA_2.out.kp hn3 (by omega) (fun b e => by omega))
          have oX_3 := Lib.hid (oX_2.out.kb hn3 (fun b e => by omega))
          have K3 := K2.trans hn3
          clear cE1 lE
          clear bR_2 bE_2 oA_2 oX_2 K2 r2 hn3
          have cE1 := cell_of_heap bE_3 1
          have lE := heap_lt bE_3
          refine hK.out _ _ ?_ (fun hHeld2 => ?_)
          · exact cE1
          clear hK K hHeld
          have hHeld := hHeld2
          clear hHeld2
          try simp only [AP]
          refine AnyK.step (i := 5) (by kernel_rfl) rfl (fun K hK => ?_)
          go_simp
          obtain ⟨hn4, y4, bV_4⟩ := newb w3 (.cells #[.int .i64 x] 3)
          generalize w3.alloc (.cells #[.int .i64 x] 3) = w4 at *
          have z4 := hn4.size
          have bR_4 := hn4.bk bR_3
          have bE_4 := hn4.bk bE_3
          have oA_4 := Lib.hid (oA_3.out.new (by omega) hn4)
          have oX_4 := Lib.hid (oX_3.out.new hn4)
          have K4 := K3.nw hn4
          have r4 := r3.nw hn4
          clear cE1 lE
          clear bR_3 bE_3 oA_3 oX_3 K3 r3 hn4
          have cE1 := cell_of_heap bE_4 1
          have lE := heap_lt bE_4
          refine hK.out _ _ ?_ (fun hHeld2 => ?_)
          · exact cE1
          clear hK K hHeld
          have hHeld := hHeld2
          clear hHeld2
          try simp only [AP]
          refine AnyK.step (i := 6) (by kernel_rfl) rfl (fun K hK => ?_)
          refine step_pushes rfl (.tmp 30) (.tmp 34) 29 rfl (s1) 3 _ _ Tryd.underlying29 LawF.infoI rfl (by decide) (.slice b m t) ys rfl oX_4.out _ [x] rfl (FlR.one (b := w3.heap.size) fun t ht => ?_) ?_ ?_ ?_ ?_ ?_
          · obtain rfl : t = 0 := by omega
            exact cell_of_heap bV_4 0
          · intro y hy t
            rw [List.mem_singleton] at hy
            subst hy
            exact oneI _ _
          · have := hlX.out; simp; omega
          · have := hlX.out; simp; omega
          · omega
          intro v5 w5 hv5 hp5 ha5
          have hlt5 := oX_4.out.lt
          have hk5 : Kp (fun b => s1 ≤ b) w4 w5 := hp5.mono fun b _ e => (hlt5 b e).1
          obtain ⟨b', t', e5, _⟩ := hv5.reads.len
          have hm5 : (ys ++ [x]).length = m + 1 := by simp [hlX.out]
          rw [hm5] at e5
          subst e5
          have oX_5 := Lib.hid hv5
          clear hlX
          have hlX := Lib.hid hm5
          clear hv5 hp5 ha5 hlt5 hm5 oX_4 bV_4
          have z5 := hk5.size
          have bR_5 := hk5.bo bR_4
          have bE_5 := hk5.bo bE_4
          have oA_5 := Lib.hid (oA_4.out.kp hk5 (by omega) (fun b e => by omega))
          have K5 : One br w w5 := one_new K4 hk5 (fun b e => by omega)
          have r5 := r4.keep hk5 (fun i e => by omega)
          clear cE1 lE
          clear bR_4 bE_4 oA_4 K4 r4 hk5
          have cE1 := cell_of_heap bE_5 1
          have lE := heap_lt bE_5
          refine hK.out _ _ ?_ (fun hHeld2 => ?_)
          · exact cE1
          clear hK K hHeld
          have hHeld := hHeld2
          clear hHeld2
          try simp only [AP]
          refine AnyK.tw 7 rfl ?_
          try simp only [AP]
          refine AnyK.last (by kernel_rfl) ?_
          simp only [List.drop_succ_cons, List.drop_zero]
          clear hHeld
          clear cE1 lE
          obtain ⟨cE0, cE1, cE2⟩ := cells3 bE_5
          have fE := frozen_of_heap bE_5
          have lE := heap_lt bE_5
          have lR := heap_lt bR_5
          have kz : One (w.heap.size + 1) w5 (w5.setCell ⟨w.heap.size + 1, 1, none⟩ (.slice b' (m + 1) t')) := (Kp.refl (fun k => k = w.heap.size + 1) _).setCell (.inl rfl) _
          have zz := kz.size
          have hL : L2 w br p xs a d s1 (m + 1) (w5.setCell ⟨w.heap.size + 1, 1, none⟩ (.slice b' (m + 1) t')) := ⟨ys ++ [x], b', t', q + 1, hlX.out, one_on K5 kz (by omega), r5.keep kz (fun b e => by omega), by omega, heap_set bR_5 (by omega) _, setCell_heap bE_5 _, oA_5.out.kp kz (by omega) (fun b e => by omega), oX_5.out.kb kz (fun b e => by omega), (fun y hy => by
            rcases List.mem_append.1 hy with g | g
            · exact hyh.out y g
            · rw [List.mem_singleton] at g; subst g; exact ⟨x0, x1⟩), by omega⟩
          have hLh := Lib.hid hL
          clear hL oX_5 oA_5 K5 r5 kz bR_5 hyh
          go_wp2
          go_roundw
          case rel => exact ⟨j - 1, by omega, by go_num, by rw [hm2h.out]; exact hLh.out⟩
          case measure => simp [intOf]; omega
        · obtain rfl : j = 0 := by omega
          rw [Nat.sub_zero] at hq bE_0 oX_0 hlX
          have hlq := hlX.out
          clear hlt hj
          subst hlq
          have oB_0 := Lib.hid oX_0.out.reads
          have hs3 : wr.heap.size ≤ wr.heap.size := Nat.le_refl _
          clear oX_0
          obtain ⟨cE0, cE1, cE2⟩ := cells3 bE_0
          have lE := heap_lt bE_0
          go_wp2_with fail
          refine wp_region_tail (k := 7) (S := fun w' => w'.cell? ⟨w.heap.size + 1, 0, none⟩ = some (.slice a xs.length d) ∧ w'.cell? ⟨w.heap.size + 1, 1, none⟩ = some (.slice b ys.length t) ∧ w'.cell? ⟨w.heap.size + 1, 2, none⟩ = some (.slice none 0 0)) (by kernel_rfl) ?_ (fun hHeld => ?_)
          · exact ⟨cE0, cE1, cE2⟩
          clear cE0 cE1 cE2 lE
          have hn1 : New wr wr.drew := (Kp.refl _ _).drew
          generalize wr.drew = w1 at *
          have z1 := hn1.size
          have bR_1 := hn1.bk bR_0
          have bE_1 := hn1.bk bE_0
          have oA_1 := Lib.hid (oA_0.out.new (by omega) hn1)
          have oB_1 := Lib.hid (oB_0.out.new (by omega) hn1)
          have K1 := K0.nw hn1
          have r1 := r0.nw hn1
          clear bR_0 bE_0 oA_0 oB_0 K0 r0 hn1
          obtain ⟨cE0, cE1, cE2⟩ := cells3 bE_1
          have lE := heap_lt bE_1
          refine AnyK.tw 0 rfl ?_
          try simp only [AP]
          refine AnyK.tk 1 rfl ?_
          try simp only [AP]
          refine AnyK.tw 2 rfl ?_
          try simp only [AP]
          refine AnyK.step (i := 3) (by kernel_rfl) rfl (fun K hK => ?_)
          go_simp
          obtain ⟨hn2, y2, bN_2⟩ := newb w1 (.cells #[.int .i64 2, .int .i64 3, .int .i64 1, .int .i64 4] 3)
          generalize w1.alloc (.cells #[.int .i64 2, .int .i64 3, .int .i64 1, .int .i64 4] 3) = w2 at *
          have z2 := hn2.size
          have bR_2 := hn2.bk bR_1
          have bE_2 := hn2.bk bE_1
          have oA_2 := Lib.hid (oA_1.out.new (by omega) hn2)
          have oB_2 := Lib.hid (oB_1.out.new (by omega) hn2)
          have K2 := K1.nw hn2
          have r2 := r1.nw hn2
          clear cE0 cE1 cE2 lE
          clear bR_1 bE_1 oA_1 oB_1 K1 r1 hn2
          obtain ⟨cE0, cE1, cE2⟩ := cells3 bE_2
          have lE := heap_lt bE_2
          refine hK.out _ _ ?_ (fun hHeld2 => ?_)
          · exact ⟨cE0, cE1, cE2⟩
          clear hK K hHeld
          have hHeld := hHeld2
          clear hHeld2
          try simp only [AP]
          refine AnyK.step (i := 4) (by kernel_rfl) rfl (fun K hK => ?_)
          go_simp
          have hNc := Lib.hid (fun i : Nat => cell_of_heap bN_2 i)
          have hNl := heap_lt bN_2
          have hNr := r2.lt
          refine (num w2 br (q) (w1.heap.size) 4 _ (fun x => 0 ≤ x ∧ x ≤ 4) r2 (by omega) (by omega) (by omega) (by omega) ?_).mono ?_
          · intro i hi
            have hi2 := hNc.out i
            match i, hi with
            | 0, _ => exact ⟨_, by decide, hi2⟩
            | 1, _ => exact ⟨_, by decide, hi2⟩
            | 2, _ => exact ⟨_, by decide, hi2⟩
            | 3, _ => exact ⟨_, by decide, hi2⟩
          rintro e w3 ⟨y, rfl, ⟨y0, y1⟩, hn3, r3⟩
          clear hNc hNl hNr bN_2
          have z3 := hn3.size
          have bR_3 := hn3.bo bR_2
          have bE_3 := hn3.bo bE_2
          have oA_3 := Lib.hid (oA_2.out.kp hn3 (by omega) (fun b e => by omega))
          have oB_3 := Lib.hid (oB_2.out.kp hn3 (by omega) (fun b e => by omega))
          have K3 := K2.trans hn3
          clear cE0 cE1 cE2 lE
          clear bR_2 bE_2 oA_2 oB_2 K2 r2 hn3
          obtain ⟨ny, rfl⟩ : ∃ nn : Nat, y = nn := ⟨y.toNat, by omega⟩
          obtain ⟨cE0, cE1, cE2⟩ := cells3 bE_3
          have lE := heap_lt bE_3
          refine hK.out _ _ ?_ (fun hHeld2 => ?_)
          · exact ⟨cE0, cE1, cE2⟩
          clear hK K hHeld
          have hHeld := hHeld2
          clear hHeld2
          try simp only [AP]
          refine AnyK.step (i := 5) (by kernel_rfl) rfl (fun K hK => ?_)
          go_simp
          refine (DrawP.block a b none xs.length d ys.length t 0 0 (by omega) (by omega) 3 3 rfl (by omega) w3 br (q + 1) ny r3 (by omega) (by simp only [sp3]; omega)).mono ?_
          rintro e w4 ⟨aB, tB, lB, qB, rfl, hn4, r4, hqB, hkB, hsB⟩
          simp only [sp3] at hqB
          simp only [ss3] at hsB
          have z4 := hn4.size
          have bR_4 := hn4.bo bR_3
          have bE_4 := hn4.bo bE_3
          have oA_4 := Lib.hid (oA_3.out.kp hn4 (by omega) (fun b e => by omega))
          have oB_4 := Lib.hid (oB_3.out.kp hn4 (by omega) (fun b e => by omega))
          have K4 := K3.trans hn4
          clear cE0 cE1 cE2 lE
          clear bR_3 bE_3 oA_3 oB_3 K3 r3 hn4
          have oC_4 := Lib.hid hkB
          have hrC : w3.heap.size ≤ w4.heap.size := by omega
          clear hkB
          obtain ⟨cE0, cE1, cE2⟩ := cells3 bE_4
          have lE := heap_lt bE_4
          refine hK.out _ _ ?_ (fun hHeld2 => ?_)
          · exact ⟨cE0, cE1, cE2⟩
          clear hK K hHeld
          have hHeld := hHeld2
          clear hHeld2
          try simp only [AP]
          refine AnyK.tw 6 rfl ?_
          try simp only [AP]
          refine AnyK.last (by kernel_rfl) ?_
          simp only [List.drop_succ_cons, List.drop_zero]
          clear hHeld
          clear cE0 cE1 cE2 lE
          obtain ⟨cE0, cE1, cE2⟩ := cells3 bE_4
          have fE := frozen_of_heap bE_4
          have lE := heap_lt bE_4
          go_upto_region 11 with fail
          have hk5 : Kp (fun k => k = w.heap.size + 1) w4 (w4.setCell ⟨w.heap.size + 1, 2, none⟩ (.slice aB lB.length tB)) := (Kp.setCell (Kp.refl (fun k => k = w.heap.size + 1) _) (.inl rfl) _)
          have bE_5 : (w4.setCell ⟨w.heap.size + 1, 2, none⟩ (.slice aB lB.length tB)).heap[w.heap.size + 1]? = some (.cells #[.slice a xs.length d, .slice b ys.length t, .slice aB lB.length tB] 41) := (setCell_heap bE_4 _)
          generalize (w4.setCell ⟨w.heap.size + 1, 2, none⟩ (.slice aB lB.length tB)) = w5 at *
          have z5 := hk5.size
          have bR_5 := hk5.bo bR_4
          have oA_5 := Lib.hid (oA_4.out.kp hk5 (by omega) (fun b e => by omega))
          have oB_5 := Lib.hid (oB_4.out.kp hk5 (by omega) (fun b e => by omega))
          have oC_5 := Lib.hid (oC_4.out.kp hk5 (by omega) (fun b e => by omega))
          have K5 : One br w w5 := one_on K4 hk5 (by omega)
          have r5 := r4.kp hk5
          clear cE0 cE1 cE2 fE lE
          clear bR_4 bE_4 oA_4 oB_4 oC_4 K4 r4 hk5
          obtain ⟨cE0, cE1, cE2⟩ := cells3 bE_5
          have lE := heap_lt bE_5
          go_wp2_with fail
          refine (PgmV.specP (w := w5) (lo := w.heap.size) (hi := w5.heap.size) (oA_5.out.mono (by omega) (by omega)) (oB_5.out.mono (by omega) (by omega)) (oC_5.out.mono (by omega) (by omega)) (Nat.le_refl _) (by omega)).mono ?_
          rintro e w6 ⟨rfl, hn6⟩
          obtain ⟨bb, hbb⟩ : ∃ bb, Go.Proofs.YtckikiaockkmbaaDoor.Val.progB xs ys lB = bb := ⟨_, rfl⟩
          rw [hbb]
          clear hbb
          have z6 := hn6.size
          have bR_6 := hn6.bk bR_5
          have bE_6 := hn6.bk bE_5
          have oA_6 := Lib.hid (oA_5.out.new (by omega) hn6)
          have oB_6 := Lib.hid (oB_5.out.new (by omega) hn6)
          have oC_6 := Lib.hid (oC_5.out.new (by omega) hn6)
          have K6 := K5.nw hn6
          have r6 := r5.nw hn6
          clear cE0 cE1 cE2 lE
          clear bR_5 bE_5 oA_5 oB_5 oC_5 K5 r5 hn6
          cases bb
          · clear oA_6 oB_6 oC_6 bE_6
            obtain ⟨cR0, cR1, cR2⟩ := cells3 bR_6
            have fR := frozen_of_heap bR_6
            have lR := heap_lt bR_6
            go_wp2
            have hkz := setMany_kp (w.heap.size) [.slice (some ⟨w6.heap.size, 0, none⟩) 2 2, .slice none 0 0, .slice (some ⟨w6.heap.size + 1, 0, none⟩) 1 1] w6 0
            have zs := setMany_size (w.heap.size) [.slice (some ⟨w6.heap.size, 0, none⟩) 2 2, .slice none 0 0, .slice (some ⟨w6.heap.size + 1, 0, none⟩) 1 1] w6 0
            have hR := setMany_row [.slice (some ⟨w6.heap.size, 0, none⟩) 2 2, .slice none 0 0, .slice (some ⟨w6.heap.size + 1, 0, none⟩) 1 1] bR_6 rfl
            have hnn : New (setMany w6 (w.heap.size) 0 [.slice (some ⟨w6.heap.size, 0, none⟩) 2 2, .slice none 0 0, .slice (some ⟨w6.heap.size + 1, 0, none⟩) 1 1]) (((setMany w6 (w.heap.size) 0 [.slice (some ⟨w6.heap.size, 0, none⟩) 2 2, .slice none 0 0, .slice (some ⟨w6.heap.size + 1, 0, none⟩) 1 1]).alloc (.cells #[.int .i64 0, .int .i64 1] 3)).alloc (.cells #[.int .i64 1, .int .i64 1, .int .i64 0, .int .i64 0, .slice none 0 0, .int .i64 2, .int .i64 0, .slice none 0 0, .int .i64 0, .slice none 0 0, .slice none 0 0] 92)) := ((Kp.refl _ _).alloc _).alloc _
            have bI : (((setMany w6 (w.heap.size) 0 [.slice (some ⟨w6.heap.size, 0, none⟩) 2 2, .slice none 0 0, .slice (some ⟨w6.heap.size + 1, 0, none⟩) 1 1]).alloc (.cells #[.int .i64 0, .int .i64 1] 3)).alloc (.cells #[.int .i64 1, .int .i64 1, .int .i64 0, .int .i64 0, .slice none 0 0, .int .i64 2, .int .i64 0, .slice none 0 0, .int .i64 0, .slice none 0 0, .slice none 0 0] 92)).heap[w6.heap.size]? = some (.cells #[.int .i64 0, .int .i64 1] 3) := heap_old (heap_at zs)
            have bS : (((setMany w6 (w.heap.size) 0 [.slice (some ⟨w6.heap.size, 0, none⟩) 2 2, .slice none 0 0, .slice (some ⟨w6.heap.size + 1, 0, none⟩) 1 1]).alloc (.cells #[.int .i64 0, .int .i64 1] 3)).alloc (.cells #[.int .i64 1, .int .i64 1, .int .i64 0, .int .i64 0, .slice none 0 0, .int .i64 2, .int .i64 0, .slice none 0 0, .int .i64 0, .slice none 0 0, .slice none 0 0] 92)).heap[w6.heap.size + 1]? = some (.cells #[.int .i64 1, .int .i64 1, .int .i64 0, .int .i64 0, .slice none 0 0, .int .i64 2, .int .i64 0, .slice none 0 0, .int .i64 0, .slice none 0 0, .slice none 0 0] 92) := heap_at (by simp [zs])
            have yS := heap_lt bS
            exact bodyPost_ret (results_cell_row rfl _ _ _ _ _ _ _ rfl (heap_new hnn hR) Tryd.underlying41 rfl (by kernel_rfl)) rfl ⟨_, _, _, _, _, _, [0, 1], [], [.node 1 1 (.node 0 0 []) (.node 2 0 []) 0 [] []], _, rfl, (one_on K6 hkz (by omega)).trans (hnn.mono fun _ _ f => f.elim), (r6.keep hkz (fun i e => by omega)).keep hnn (fun _ f => f.elim), by omega, (ints2 bI).mono (lo' := w.heap.size) (hi' := (((setMany w6 (w.heap.size) 0 [.slice (some ⟨w6.heap.size, 0, none⟩) 2 2, .slice none 0 0, .slice (some ⟨w6.heap.size + 1, 0, none⟩) 1 1]).alloc (.cells #[.int .i64 0, .int .i64 1] 3)).alloc (.cells #[.int .i64 1, .int .i64 1, .int .i64 0, .int .i64 0, .slice none 0 0, .int .i64 2, .int .i64 0, .slice none 0 0, .int .i64 0, .slice none 0 0, .slice none 0 0] 92)).heap.size) (by omega) (by omega), .nil _ _, (sts1 bS).mono (lo' := w.heap.size) (hi' := (((setMany w6 (w.heap.size) 0 [.slice (some ⟨w6.heap.size, 0, none⟩) 2 2, .slice none 0 0, .slice (some ⟨w6.heap.size + 1, 0, none⟩) 1 1]).alloc (.cells #[.int .i64 0, .int .i64 1] 3)).alloc (.cells #[.int .i64 1, .int .i64 1, .int .i64 0, .int .i64 0, .slice none 0 0, .int .i64 2, .int .i64 0, .slice none 0 0, .int .i64 0, .slice none 0 0, .slice none 0 0] 92)).heap.size) (by omega) (by omega), by simp, by simp, by decide, by simp, by simp⟩
          · obtain ⟨cE0, cE1, cE2⟩ := cells3 bE_6
            have lE := heap_lt bE_6
            obtain ⟨cR0, cR1, cR2⟩ := cells3 bR_6
            have fR := frozen_of_heap bR_6
            have lR := heap_lt bR_6
            go_wp2
            have hkz := setMany_kp (w.heap.size) [.slice a xs.length d, .slice b ys.length t, .slice aB lB.length tB] w6 0
            have zs := setMany_size (w.heap.size) [.slice a xs.length d, .slice b ys.length t, .slice aB lB.length tB] w6 0
            have hR := setMany_row [.slice a xs.length d, .slice b ys.length t, .slice aB lB.length tB] bR_6 rfl
            exact bodyPost_ret (results_cell_row rfl _ _ _ _ _ _ _ rfl hR Tryd.underlying41 rfl (by kernel_rfl)) rfl ⟨_, _, _, _, _, _, xs, ys, lB, _, rfl, one_on K6 hkz (by omega), r6.keep hkz (fun i e => by omega), by omega, ((oA_6.out.kp hkz (by omega) (fun i e => by omega)).mono (lo' := w.heap.size) (hi' := (setMany w6 (w.heap.size) 0 [.slice a xs.length d, .slice b ys.length t, .slice aB lB.length tB]).heap.size) (by omega) (by omega)), ((oB_6.out.kp hkz (by omega) (fun i e => by omega)).mono (lo' := w.heap.size) (hi' := (setMany w6 (w.heap.size) 0 [.slice a xs.length d, .slice b ys.length t, .slice aB lB.length tB]).heap.size) (by omega) (by omega)), ((oC_6.out.kp hkz (by omega) (fun i e => by omega)).mono (lo' := w.heap.size) (hi' := (setMany w6 (w.heap.size) 0 [.slice a xs.length d, .slice b ys.length t, .slice aB lB.length tB]).heap.size) (by omega) (by omega)), by omega, by omega, by omega, hxh.out, hyh.out⟩
end Go.Proofs.YtckikiaockkmbaaDoor.DrawG
