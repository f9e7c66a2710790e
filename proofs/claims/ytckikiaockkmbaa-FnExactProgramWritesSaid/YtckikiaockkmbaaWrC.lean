/- ProgramWrites of both: rows of bools, the closure that marks, l2Mark. Condition (spec): at most 2^20 nodes. -/
import Derived.Test.YtckikiaockkmbaaEach
import Derived.Test.YtckikiaockkmbaaFlowP
import Derived.BigRegion
import Derived.Deep.DeepCutAuto
import Derived.Deep.RegionWith
import Derived.Test.YtckikiaockkmbaaShort
namespace Go.Proofs.Ytckikiaockkmbaa.WrC
open Go.RowKit Kit Val Each
set_option linter.unusedVariables false
/-- block g is a row that holds xs -/
def RowB (w : World) (g : Nat) (xs : List Bool) : Prop := w.heap[g]? = some (.cells (xs.map Value.bool).toArray 4 (0, 0))
theorem RowB.bk {w w' : World} {g : Nat} {xs : List Bool} (h : RowB w g xs) {S : Nat → Prop} (k : Kp S w w') (hs : ¬ S g) : RowB w' g xs := k.bk h hs
theorem RowB.lt {w : World} {g : Nat} {xs : List Bool} (h : RowB w g xs) : g < w.heap.size := heap_lt h
theorem RowB.cell {w : World} {g : Nat} {xs : List Bool} (h : RowB w g xs) (i : Nat) (hi : i < xs.length) : w.cell? ⟨g, i, none⟩ = some (.bool xs[i]) := by
  rw [cell_of_heap h i]; simp [hi]
theorem RowB.free {w : World} {g : Nat} {xs : List Bool} (h : RowB w g xs) (i : Nat) : w.frozen? ⟨g, i, none⟩ = false := frozen_of_heap h i
theorem RowB.set {w : World} {g : Nat} {xs : List Bool} (h : RowB w g xs) (i : Nat) (b : Bool) : RowB (w.setCell ⟨g, i, none⟩ (.bool b)) g (xs.set i b) := by
  have := setCell_heap (o := i) h (.bool b)
  unfold RowB
  rw [this]
  simp [List.map_set]
theorem RowB.made (w : World) (n : Nat) : RowB (w.alloc (.cells (mkCells (.bool false) 1 n) 4)) w.heap.size (List.replicate n false) := by
  unfold RowB
  rw [alloc_heap]
  congr 2
  apply Array.ext
  · simp [mkCells, size_madeCells]
  · intro i h1 h2
    simp [mkCells, madeCells, Value.cells, Nat.mod_one]
/-- what ProgramWrites answers -/
def wrB (xa xb : List Int) (l : List St) : List Bool × List Bool := if progB xa xb l then foldL wrG l (List.replicate xa.length false, List.replicate xb.length false) else ([], [])
/-- the two variables, the two rows -/
structure TwoRows (bc bd g1 g2 n1 n2 : Nat) (w : World) (a : List Bool × List Bool) : Prop where
  c : w.heap[bc]? = some (.cells #[.slice (some ⟨g1, 0, none⟩) n1 n1] 39 (0, 0))
  d : w.heap[bd]? = some (.cells #[.slice (some ⟨g2, 0, none⟩) n2 n2] 39 (0, 0))
  x : RowB w g1 a.1
  y : RowB w g2 a.2
  lx : a.1.length = n1
  ly : a.2.length = n2
theorem TwoRows.new {bc bd g1 g2 n1 n2 : Nat} {w w' : World} {a : List Bool × List Bool} (h : TwoRows bc bd g1 g2 n1 n2 w a) (k : New w w') : TwoRows bc bd g1 g2 n1 n2 w' a := ⟨heap_new k h.c, heap_new k h.d, heap_new k h.x, heap_new k h.y, h.lx, h.ly⟩
set_option maxHeartbeats 4000000 in
theorem told1 (lo hi top bc bd g1 g2 nv na : Nat) (q1 : g1 ≠ g2) (q2 : bc ≠ g1 ∧ bc ≠ g2) (q3 : bd ≠ g1 ∧ bd ≠ g2) :
    ToldC 63 #[.pointer (some ⟨bc, 0, none⟩), .pointer (some ⟨bd, 0, none⟩)] (fun k => k = g1 ∨ k = g2) lo hi top nv na (TwoRows bc bd g1 g2 nv na) (fun s _ a => wrG s a) := by
  intro w a s x d vi vv vb ve hv ri rv rb re h1 ht hI
  have hval := stB_val hv
  obtain ⟨k, t, ⟨ik, iv, li⟩, ⟨vk, vx, lv⟩, c, lb, le⟩ := s
  obtain ⟨a4, c4, rfl, _⟩ := ri.len
  obtain ⟨a7, c7, rfl, _⟩ := rv.len
  obtain ⟨a9, c9, rfl, _⟩ := rb.len
  obtain ⟨a10, c10, rfl, _⟩ := re.len
  obtain ⟨-, -, hv1, hv2, hk1, hk5⟩ := hval
  replace hk1 : 1 ≤ k := hk1
  replace hk5 : k ≤ 5 := hk5
  replace hv1 : k = 1 ∨ k = 5 → 0 ≤ t ∧ t < nv := hv1
  replace hv2 : k = 2 → 0 ≤ t ∧ t < na := hv2
  have k0 : New w (w.alloc (.cells #[.int .i64 k, .int .i64 t, .int .i64 ik, .int .i64 iv, .slice a4 li.length c4, .int .i64 vk, .int .i64 vx, .slice a7 lv.length c7, .int .i64 c, .slice a9 lb.length c9, .slice a10 le.length c10] 74)) := (Kp.refl _ _).alloc _
  have V0 := hI.new k0
  have l1 := hI.x.lt
  have l2 := hI.y.lt
  have bS := alloc_heap w (.cells #[.int .i64 k, .int .i64 t, .int .i64 ik, .int .i64 iv, .slice a4 li.length c4, .int .i64 vk, .int .i64 vx, .slice a7 lv.length c7, .int .i64 c, .slice a9 lb.length c9, .slice a10 le.length c10] 74)
  have z0 : w.heap.size < (w.alloc (.cells #[.int .i64 k, .int .i64 t, .int .i64 ik, .int .i64 iv, .slice a4 li.length c4, .int .i64 vk, .int .i64 vx, .slice a7 lv.length c7, .int .i64 c, .slice a9 lb.length c9, .slice a10 le.length c10] 74)).heap.size := by simp
  clear hI ri rv rb re hv
  show Calls _ _ #[.agg #[.int .i64 k, .int .i64 t, .int .i64 ik, .int .i64 iv, .slice a4 li.length c4, .int .i64 vk, .int .i64 vx, .slice a7 lv.length c7, .int .i64 c, .slice a9 lb.length c9, .slice a10 le.length c10], .int .i64 x, .pointer (some ⟨bc, 0, none⟩), .pointer (some ⟨bd, 0, none⟩)] _ _
  go_enter Try.func63, Try.ntmps63
  go_upto_region 1 with fail
  generalize w.alloc (.cells #[.int .i64 k, .int .i64 t, .int .i64 ik, .int .i64 iv, .slice a4 li.length c4, .int .i64 vk, .int .i64 vx, .slice a7 lv.length c7, .int .i64 c, .slice a9 lb.length c9, .slice a10 le.length c10] 74) = w0 at *
  have V0h := Lib.hid V0
  have cC := cell_of_heap V0.c 0
  have cD := cell_of_heap V0.d 0
  obtain ⟨cS0, cS1⟩ := cells2 bS
  have lx := V0.lx
  have ly := V0.ly
  have lw1 : g1 < w0.heap.size := by omega
  have lw2 : g2 < w0.heap.size := by omega
  by_cases h15 : k = 1 ∨ k = 5
  · obtain ⟨t0, t1⟩ := hv1 h15
    obtain ⟨n, rfl⟩ := Int.eq_ofNat_of_zero_le t0
    have hn : n < nv := by omega
    obtain ⟨ux, cX⟩ : ∃ v, w0.cell? ⟨g1, n, none⟩ = some v := ⟨_, V0.x.cell n (by omega)⟩
    have fX := V0.x.free n
    have D := Lib.hid (show wrG (.node k n (.node ik iv li) (.node vk vx lv) c lb le) a = (a.1.set n true, a.2) by unfold wrG; rw [if_pos (show St.kind (.node k _ _ _ _ _ _) = 1 ∨ St.kind (.node k _ _ _ _ _ _) = 5 from h15)]; rfl)
    have kk : Kp (fun k => k = g1 ∨ k = g2) w0 (w0.setCell ⟨g1, n, none⟩ (.bool true)) := (Kp.refl (fun k => k = g1 ∨ k = g2) w0).setCell (.inl (.inl rfl)) _
    have hkx : (k == 1 || k == 5) = true := by rcases h15 with h | h <;> simp [h]
    have hlx := Lib.hid lx
    have hly := Lib.hid ly
    clear V0 hv1 hv2 lx ly hk1 hk5 bS
    have fin : ∃ Z : Prop, Z := ⟨True, trivial⟩
    rcases h15 with rfl | rfl
    all_goals
      clear fin hkx
      go_wp2
      refine Go.Great.bodyPost_end0 rfl rfl ⟨rfl, (k0.mono fun _ _ f => f.elim).trans kk, ?_⟩
      rw [D.out]
      exact ⟨heap_set V0h.out.c (by omega) _, heap_set V0h.out.d (by omega) _, V0h.out.x.set n true, heap_set V0h.out.y (by omega) _, by simpa using hlx.out, hly.out⟩
  · by_cases h2 : k = 2
    · subst h2
      obtain ⟨t0, t1⟩ := hv2 rfl
      obtain ⟨n, rfl⟩ := Int.eq_ofNat_of_zero_le t0
      have hn : n < na := by omega
      obtain ⟨uy, cY⟩ : ∃ v, w0.cell? ⟨g2, n, none⟩ = some v := ⟨_, V0.y.cell n (by omega)⟩
      have fY := V0.y.free n
      have D := Lib.hid (show wrG (.node 2 n (.node ik iv li) (.node vk vx lv) c lb le) a = (a.1, a.2.set n true) by unfold wrG; rfl)
      have kk : Kp (fun k => k = g1 ∨ k = g2) w0 (w0.setCell ⟨g2, n, none⟩ (.bool true)) := (Kp.refl (fun k => k = g1 ∨ k = g2) w0).setCell (.inl (.inr rfl)) _
      have hlx := Lib.hid lx
      have hly := Lib.hid ly
      clear V0 hv1 hv2 lx ly hk1 hk5 bS h15
      go_wp2
      refine Go.Great.bodyPost_end0 rfl rfl ⟨rfl, (k0.mono fun _ _ f => f.elim).trans kk, ?_⟩
      rw [D.out]
      exact ⟨heap_set V0h.out.c (by omega) _, heap_set V0h.out.d (by omega) _, heap_set V0h.out.x (by omega) _, V0h.out.y.set n true, hlx.out, by simpa using hly.out⟩
    · have D := Lib.hid (show wrG (.node k t (.node ik iv li) (.node vk vx lv) c lb le) a = a by unfold wrG; rw [if_neg (show ¬ (St.kind (.node k _ _ _ _ _ _) = 1 ∨ St.kind (.node k _ _ _ _ _ _) = 5) from h15), if_neg (show ¬ St.kind (.node k _ _ _ _ _ _) = 2 from h2)])
      have e1 : (k == 1) = false := by simp; omega
      have e5 : (k == 5) = false := by simp; omega
      have e2 : (k == 2) = false := by simp; omega
      clear V0 hv1 hv2 lx ly bS h15 h2
      go_wp2
      refine Go.Great.bodyPost_end0 rfl rfl ⟨rfl, k0.mono fun _ _ f => f.elim, ?_⟩
      rw [D.out]
      exact V0h.out
def MarkDoes (g1 g2 n1 n2 : Nat) (n : Nat) : Prop := ∀ (w : World) (lo hi d : Nat) (s : Value) (l : List St) (a : List Bool × List Bool), St.sizes l < n → StsR w lo hi s l → hi ≤ w.heap.size → blB n1 n2 l d = true → (g1 < lo ∨ hi ≤ g1) → (g2 < lo ∨ hi ≤ g2) → RowB w g1 a.1 → RowB w g2 a.2 → a.1.length = n1 → a.2.length = n2 →
  Calls Try.prog 64 #[.slice (some ⟨g1, 0, none⟩) n1 n1, .slice (some ⟨g2, 0, none⟩) n2 n2, s] w fun e w' => e = .returned (.tuple #[]) ∧ Kp (fun k => k = g1 ∨ k = g2) w w' ∧ RowB w' g1 (foldL wrG l a).1 ∧ RowB w' g2 (foldL wrG l a).2
set_option maxHeartbeats 4000000 in
theorem mark_step (g1 g2 n1 n2 : Nat) (hg : g1 ≠ g2) (n : Nat) (H : MarkDoes g1 g2 n1 n2 n) (w : World) (lo hi d : Nat) (s : Value) (l : List St) (a : List Bool × List Bool) (hl : St.sizes l ≤ n) (hs : StsR w lo hi s l) (h1 : hi ≤ w.heap.size) (hv : blB n1 n2 l d = true) (p1 : g1 < lo ∨ hi ≤ g1) (p2 : g2 < lo ∨ hi ≤ g2) (x0 : RowB w g1 a.1) (y0 : RowB w g2 a.2) (lx0 : a.1.length = n1) (ly0 : a.2.length = n2) :
    Calls Try.prog 64 #[.slice (some ⟨g1, 0, none⟩) n1 n1, .slice (some ⟨g2, 0, none⟩) n2 n2, s] w fun e w' => e = .returned (.tuple #[]) ∧ Kp (fun k => k = g1 ∨ k = g2) w w' ∧ RowB w' g1 (foldL wrG l a).1 ∧ RowB w' g2 (foldL wrG l a).2 := by
  obtain ⟨ap, cs, rfl, ml⟩ := hs.len
  have HH := Lib.hid H
  have hsh := Lib.hid hs
  have hvh := Lib.hid hv
  have hI := Lib.hid (show RowB w g1 a.1 ∧ RowB w g2 a.2 ∧ a.1.length = n1 ∧ a.2.length = n2 from ⟨x0, y0, lx0, ly0⟩)
  clear H hs hv x0 y0 lx0 ly0
  go_enter Try.func64, Try.ntmps64
  go_wp2_with fail
  go_loopw [6] (fun i wr => ∃ (j : Nat) (b : List Bool × List Bool), j ≤ l.length ∧ i = .int .i64 j ∧ Kp (fun k => k = g1 ∨ k = g2) w wr ∧ Hid (RowB wr g1 b.1 ∧ RowB wr g2 b.2 ∧ b.1.length = n1 ∧ b.2.length = n2) ∧ Hid (foldL wrG l a = foldL wrG (l.drop j) b)) (fun i _ => l.length - (intOf i).toNat)
  case atStart => exact ⟨0, a, Nat.zero_le _, rfl, Kp.refl _ _, hI, Lib.hid rfl⟩
  case round =>
    obtain ⟨j, b, hj, rfl, K, hB, hG⟩ := hrel
    clear hI
    have zK := K.size
    by_cases hlt : j < l.length
    · obtain ⟨gb, o, vi, vv, vb, ve, e, A⟩ := (hsh.out.kp K h1 (fun x e => by omega)).elem j hlt
      cases e
      have e0 := A.c0
      have e1 := A.c1
      have e9 := A.c9
      have e10 := A.c10
      obtain ⟨ab, cb, rfl, _⟩ := A.rb.len
      obtain ⟨ae, ce, rfl, _⟩ := A.re.len
      have r9 := Lib.hid A.rb
      have r10 := Lib.hid A.re
      have hgl1 := A.hlo
      have hgl2 := A.hhi
      have hp := St.parts_get l j hlt
      have hq1 : St.sizes l[j].body < n := by omega
      have hq2 : St.sizes l[j].els < n := by omega
      have hok := blB_get _ _ _ hvh.out j hlt
      have hsub := stB_sub hok
      have hval := stB_val hok
      have HB := Lib.hid hsub.2.1
      have HL := Lib.hid hsub.2.2.1
      have hD := Lib.hid (foldL_drop wrG b hlt)
      have hE := Lib.hid (foldS_eq wrG l[j] b)
      have hkd := hval.2.2.2.2
      have ht1 := hval.2.2.1
      have ht2 := hval.2.2.2.1
      have hlw := Lib.hid (wrG_len l[j] b)
      have hW : ∀ z, l[j] = z → wrG l[j] b = if z.kind = 1 ∨ z.kind = 5 then (b.1.set z.target.toNat true, b.2) else if z.kind = 2 then (b.1, b.2.set z.target.toNat true) else b := fun z hz => by subst hz; rfl
      have hW2 := Lib.hid (hW _ rfl)
      clear A hp hok hsub hval hW
      have hfold1 := Lib.hid (foldL_wr l[j].body (wrG l[j] b))
      have hfold2 := Lib.hid (foldL_wr l[j].els (foldL wrG l[j].body (wrG l[j] b)))
      generalize l[j] = x at *
      have hgb : gb < wr.heap.size := by omega
      -- the statement's own mark
      have key : ∀ (w2 : World), Kp (fun k => k = g1 ∨ k = g2) wr w2 → RowB w2 g1 (wrG x b).1 → RowB w2 g2 (wrG x b).2 → True := fun _ _ _ _ => trivial
      clear key
      obtain ⟨hk1, hk5⟩ := hkd
      by_cases h15 : x.kind = 1 ∨ x.kind = 5
      · obtain ⟨t0, t1⟩ := ht1 h15
        obtain ⟨tn, htn⟩ := Int.eq_ofNat_of_zero_le t0
        have hnt : tn < n1 := by omega
        rw [htn] at e1
        obtain ⟨ux, cX⟩ : ∃ v, wr.cell? ⟨g1, tn, none⟩ = some v := ⟨_, hB.out.1.cell tn (by have := hB.out.2.2; omega)⟩
        have fX := hB.out.1.free tn
        have lg := hB.out.1.lt
        have hW3 := Lib.hid (hW2.out.trans (by rw [if_pos h15, htn]; rfl : _ = (b.1.set tn true, b.2)))
        have kk : Kp (fun k => k = g1 ∨ k = g2) wr (wr.setCell ⟨g1, tn, none⟩ (.bool true)) := (Kp.refl (fun k => k = g1 ∨ k = g2) wr).setCell (.inl (.inl rfl)) _
        have X1 := Lib.hid (show RowB (wr.setCell ⟨g1, tn, none⟩ (.bool true)) g1 (wrG x b).1 ∧ RowB (wr.setCell ⟨g1, tn, none⟩ (.bool true)) g2 (wrG x b).2 by
          rw [hW3.out]; exact ⟨hB.out.1.set tn true, heap_set hB.out.2.1 (by omega) _⟩)
        have hkx : (x.kind == 1 || x.kind == 5) = true := by rcases h15 with h | h <;> simp [h]
        clear hk1 hk5 ht1 ht2 hkx
        rcases h15 with hk | hk
        all_goals
          rw [hk] at e0
          clear hk t0 t1 htn
          go_wp2_with fail
          have d9 := (kk.cell hgb (by omega) _).trans e9
          have d10 := (kk.cell hgb (by omega) _).trans e10
          have zkk := kk.size
          have Kk := K.trans kk
          clear e0 e1 e9 e10 cX fX lg
          generalize wr.setCell ⟨g1, tn, none⟩ (.bool true) = wa at *
          refine (HH.out wa lo hi (d - 1) _ x.body (wrG x b) hq1 (r9.out.kp kk (by omega) (fun i e => by omega)) (by omega) HB.out p1 p2 X1.out.1 X1.out.2 (by have := hlw.out; have := hB.out.2.2; omega) (by have := hlw.out; have := hB.out.2.2; omega)).mono ?_
          rintro e w3 ⟨rfl, k3, X3, Y3⟩
          have z3 := k3.size
          have K3 := Kk.trans k3
          have m10 := (k3.cell (by omega) (by omega) _).trans d10
          have m9 := (k3.cell (by omega) (by omega) _).trans d9
          have hX3 := Lib.hid (And.intro X3 Y3)
          clear X3 Y3 d9 d10
          go_wp2_with fail
          refine (HH.out w3 lo hi (d - 1) _ x.els (foldL wrG x.body (wrG x b)) hq2 ((r10.out.kp kk (by omega) (fun i e => by omega)).kp k3 (by omega) (fun i e => by omega)) (by omega) HL.out p1 p2 hX3.out.1 hX3.out.2 (by have := hlw.out; have := hfold1.out; have := hB.out.2.2; omega) (by have := hlw.out; have := hfold1.out; have := hB.out.2.2; omega)).mono ?_
          rintro e w4 ⟨rfl, k4, X4, Y4⟩
          have K4 := K3.trans k4
          have hI4 := Lib.hid (show RowB w4 g1 (foldS wrG x b).1 ∧ RowB w4 g2 (foldS wrG x b).2 ∧ (foldS wrG x b).1.length = n1 ∧ (foldS wrG x b).2.length = n2 by rw [hE.out]; exact ⟨X4, Y4, by have := hlw.out; have := hfold1.out; have := hfold2.out; have := hB.out.2.2; omega, by have := hlw.out; have := hfold1.out; have := hfold2.out; have := hB.out.2.2; omega⟩)
          have hgo := Lib.hid (hG.out.trans hD.out)
          clear X4 Y4 hX3 m9 m10 hG hD hE hlw hfold1 hfold2 hW2 hW3 X1 hB
          generalize foldS wrG x b = b2 at *
          go_wp2
          go_roundw
          case rel => exact ⟨j + 1, b2, by omega, by go_num, K4, hI4, hgo⟩
          case measure => simp [intOf]; omega
      · by_cases h2 : x.kind = 2
        · obtain ⟨t0, t1⟩ := ht2 h2
          obtain ⟨tn, htn⟩ := Int.eq_ofNat_of_zero_le t0
          have hnt : tn < n2 := by omega
          rw [htn] at e1
          obtain ⟨ux, cX⟩ : ∃ v, wr.cell? ⟨g2, tn, none⟩ = some v := ⟨_, hB.out.2.1.cell tn (by have := hB.out.2.2; omega)⟩
          have fX := hB.out.2.1.free tn
          have lg := hB.out.2.1.lt
          have hW3 := Lib.hid (hW2.out.trans (by rw [if_neg h15, if_pos h2, htn]; rfl : _ = (b.1, b.2.set tn true)))
          have kk : Kp (fun k => k = g1 ∨ k = g2) wr (wr.setCell ⟨g2, tn, none⟩ (.bool true)) := (Kp.refl (fun k => k = g1 ∨ k = g2) wr).setCell (.inl (.inr rfl)) _
          have X1 := Lib.hid (show RowB (wr.setCell ⟨g2, tn, none⟩ (.bool true)) g1 (wrG x b).1 ∧ RowB (wr.setCell ⟨g2, tn, none⟩ (.bool true)) g2 (wrG x b).2 by
            rw [hW3.out]; exact ⟨heap_set hB.out.1 (by omega) _, hB.out.2.1.set tn true⟩)
          have f1 : (x.kind == 1) = false := by simp; omega
          have f5 : (x.kind == 5) = false := by simp; omega
          have f2 : (x.kind == 2) = true := by simp [h2]
          rw [h2] at e0
          clear hk1 hk5 ht1 ht2 h15 h2 t0 t1 htn f1 f5 f2
          go_wp2_with fail
          have d9 := (kk.cell hgb (by omega) _).trans e9
          have d10 := (kk.cell hgb (by omega) _).trans e10
          have zkk := kk.size
          have Kk := K.trans kk
          clear e0 e1 e9 e10 cX fX lg
          generalize wr.setCell ⟨g2, tn, none⟩ (.bool true) = wa at *
          refine (HH.out wa lo hi (d - 1) _ x.body (wrG x b) hq1 (r9.out.kp kk (by omega) (fun i e => by omega)) (by omega) HB.out p1 p2 X1.out.1 X1.out.2 (by have := hlw.out; have := hB.out.2.2; omega) (by have := hlw.out; have := hB.out.2.2; omega)).mono ?_
          rintro e w3 ⟨rfl, k3, X3, Y3⟩
          have z3 := k3.size
          have K3 := Kk.trans k3
          have m10 := (k3.cell (by omega) (by omega) _).trans d10
          have m9 := (k3.cell (by omega) (by omega) _).trans d9
          have hX3 := Lib.hid (And.intro X3 Y3)
          clear X3 Y3 d9 d10
          go_wp2_with fail
          refine (HH.out w3 lo hi (d - 1) _ x.els (foldL wrG x.body (wrG x b)) hq2 ((r10.out.kp kk (by omega) (fun i e => by omega)).kp k3 (by omega) (fun i e => by omega)) (by omega) HL.out p1 p2 hX3.out.1 hX3.out.2 (by have := hlw.out; have := hfold1.out; have := hB.out.2.2; omega) (by have := hlw.out; have := hfold1.out; have := hB.out.2.2; omega)).mono ?_
          rintro e w4 ⟨rfl, k4, X4, Y4⟩
          have K4 := K3.trans k4
          have hI4 := Lib.hid (show RowB w4 g1 (foldS wrG x b).1 ∧ RowB w4 g2 (foldS wrG x b).2 ∧ (foldS wrG x b).1.length = n1 ∧ (foldS wrG x b).2.length = n2 by rw [hE.out]; exact ⟨X4, Y4, by have := hlw.out; have := hfold1.out; have := hfold2.out; have := hB.out.2.2; omega, by have := hlw.out; have := hfold1.out; have := hfold2.out; have := hB.out.2.2; omega⟩)
          have hgo := Lib.hid (hG.out.trans hD.out)
          clear X4 Y4 hX3 m9 m10 hG hD hE hlw hfold1 hfold2 hW2 hW3 X1 hB
          generalize foldS wrG x b = b2 at *
          go_wp2
          go_roundw
          case rel => exact ⟨j + 1, b2, by omega, by go_num, K4, hI4, hgo⟩
          case measure => simp [intOf]; omega
        · have hW3 := Lib.hid (hW2.out.trans (by rw [if_neg h15, if_neg h2] : _ = b))
          have X1 := Lib.hid (show RowB wr g1 (wrG x b).1 ∧ RowB wr g2 (wrG x b).2 by rw [hW3.out]; exact ⟨hB.out.1, hB.out.2.1⟩)
          have kk : Kp (fun k => k = g1 ∨ k = g2) wr wr := Kp.refl _ _
          have f1 : (x.kind == 1) = false := by simp; omega
          have f5 : (x.kind == 5) = false := by simp; omega
          have f2 : (x.kind == 2) = false := by simp; omega
          clear hk1 hk5 ht1 ht2 h15 h2
          go_wp2_with fail
          have d9 := (kk.cell hgb (by omega) _).trans e9
          have d10 := (kk.cell hgb (by omega) _).trans e10
          have zkk := kk.size
          have Kk := K.trans kk
          clear e0 e1 e9 e10
          refine (HH.out wr lo hi (d - 1) _ x.body (wrG x b) hq1 (r9.out.kp kk (by omega) (fun i e => by omega)) (by omega) HB.out p1 p2 X1.out.1 X1.out.2 (by have := hlw.out; have := hB.out.2.2; omega) (by have := hlw.out; have := hB.out.2.2; omega)).mono ?_
          rintro e w3 ⟨rfl, k3, X3, Y3⟩
          have z3 := k3.size
          have K3 := Kk.trans k3
          have m10 := (k3.cell (by omega) (by omega) _).trans d10
          have m9 := (k3.cell (by omega) (by omega) _).trans d9
          have hX3 := Lib.hid (And.intro X3 Y3)
          clear X3 Y3 d9 d10
          go_wp2_with fail
          refine (HH.out w3 lo hi (d - 1) _ x.els (foldL wrG x.body (wrG x b)) hq2 ((r10.out.kp kk (by omega) (fun i e => by omega)).kp k3 (by omega) (fun i e => by omega)) (by omega) HL.out p1 p2 hX3.out.1 hX3.out.2 (by have := hlw.out; have := hfold1.out; have := hB.out.2.2; omega) (by have := hlw.out; have := hfold1.out; have := hB.out.2.2; omega)).mono ?_
          rintro e w4 ⟨rfl, k4, X4, Y4⟩
          have K4 := K3.trans k4
          have hI4 := Lib.hid (show RowB w4 g1 (foldS wrG x b).1 ∧ RowB w4 g2 (foldS wrG x b).2 ∧ (foldS wrG x b).1.length = n1 ∧ (foldS wrG x b).2.length = n2 by rw [hE.out]; exact ⟨X4, Y4, by have := hlw.out; have := hfold1.out; have := hfold2.out; have := hB.out.2.2; omega, by have := hlw.out; have := hfold1.out; have := hfold2.out; have := hB.out.2.2; omega⟩)
          have hgo := Lib.hid (hG.out.trans hD.out)
          clear X4 Y4 hX3 m9 m10 hG hD hE hlw hfold1 hfold2 hW2 hW3 X1 hB
          generalize foldS wrG x b = b2 at *
          go_wp2
          go_roundw
          case rel => exact ⟨j + 1, b2, by omega, by go_num, K4, hI4, hgo⟩
          case measure => simp [intOf]; omega
    · have hge : l.length ≤ j := by omega
      have hfin := Lib.hid (show foldL wrG l a = b by have h := hG.out; rw [List.drop_of_length_le hge] at h; exact h)
      clear hG
      go_wp2
      refine Go.Great.bodyPost_end0 rfl rfl ⟨rfl, K, ?_⟩
      rw [hfin.out]
      exact ⟨hB.out.1, hB.out.2.1⟩
theorem mark (g1 g2 n1 n2 : Nat) (hg : g1 ≠ g2) : ∀ n, MarkDoes g1 g2 n1 n2 n
  | 0 => fun w lo hi d s l a hl => absurd hl (Nat.not_lt_zero _)
  | n + 1 => fun w lo hi d s l a hl h1 h2 h3 h4 h5 h6 h7 h8 h9 => mark_step g1 g2 n1 n2 hg n (mark g1 g2 n1 n2 hg n) w lo hi d s l a (Nat.le_of_lt_succ hl) h1 h2 h3 h4 h5 h6 h7 h8 h9
end Go.Proofs.Ytckikiaockkmbaa.WrC
