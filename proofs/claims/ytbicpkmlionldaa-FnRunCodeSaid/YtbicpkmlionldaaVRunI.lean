/- RunCode of the program: the closure that collects events, the loop, the run. Conditions: the state is valid, bounds on lengths. -/
import Derived.Test.YtbicpkmlionldaaVP8
import Derived.Great.Walk
import Derived.Test.YtbicpkmlionldaaVP1
namespace Go.Proofs.Ytbicpkmlionldaa.RunI
open Go.RowKit Kit Step StepK Val MarkC RunP
set_option linter.unusedVariables false
def Told (w : World) (be base : Nat) (v : Value) (l : List Ev) (e : Ending) (w' : World) : Prop := e = .returned (.tuple #[]) ∧ ∃ v', Kp (fun k => k = be ∨ v.ownBlock = some k) w w' ∧ w'.heap[be]? = some (.cells #[v'] 32 (0, 0)) ∧ OwnF 2 encE w' base 68 v' l ∧ (v'.ownBlock = v.ownBlock ∨ v'.ownBlock = some w.heap.size)
set_option maxHeartbeats 2000000 in
theorem ran1 (w : World) (be base lo hi : Nat) (p : Int) (v ve : Value) (l zs : List Ev) (hb : w.heap[be]? = some (.cells #[v] 32 (0, 0))) (hv : OwnF 2 encE w base 68 v l) (hz : EvsR w lo hi ve zs) (hne : v.ownBlock ≠ some be) (hl : l.length + zs.length ≤ 1048576) (hbase : base ≤ w.heap.size) :
    Calls Try.prog 50 #[.int .i64 p, ve, .pointer (some ⟨be, 0, none⟩)] w (Told w be base v (l ++ zs)) := by
  have hvh := Lib.hid hv
  have hzh := Lib.hid hz
  have hneh := Lib.hid hne
  clear hv hz hne
  have c0 := cell_of_heap hb 0
  have cf := frozen_of_heap hb
  have bl := heap_lt hb
  go_enter Try.func50, Try.ntmps50
  go_wp2_with (at_builtin; refine wpList_pushesN rfl _ _ 32 rfl base 68 _ 16 Try.underlying32 infoE rfl (by decide) _ l rfl hvh.out _ zs rfl hzh.out (fun q _ => oneE q) ?ca ?cb hbase ?_)
  case ca => omega
  case cb => omega
  intro v1 w1 hv1 hk1 ha1
  have hb1 := (hk1.block _ bl hneh.out).trans hb
  clear c0 cf
  have c0 := cell_of_heap hb1 0
  have cf := frozen_of_heap hb1
  have hv2 := Lib.hid hv1
  obtain ⟨a3, d3, e3, _⟩ := hv1.reads.len
  rw [List.length_append] at e3
  subst e3
  clear hv1
  go_wp2
  have kk : Kp (fun k => k = be) w1 (w1.setCell ⟨be, 0, none⟩ (.slice a3 (l.length + zs.length) d3)) := (Kp.refl (fun k => k = be) w1).setCell (.inl rfl) _
  refine Go.Great.bodyPost_end0 rfl rfl ⟨rfl, _, (hk1.mono fun _ _ e => .inr e).trans (kk.mono fun _ _ e => .inl e), setCell_heap (o := 0) hb1 _, hv2.out.kp kk fun b e1 e2 => ?_, ha1⟩
  subst e2
  rcases ha1 with h | h
  · exact hneh.out (h ▸ e1)
  · rw [h] at e1; cases e1; exact absurd bl (Nat.lt_irrefl _)
/-- the state behind k rounds -/
def Going (w : World) (lo hi b be nv na : Nat) (vr va vb ta tb tc : Value) (x : List Ins) (k n : Nat) (r : Option (Ms × List Ev)) (wr : World) : Prop := ∃ (p : Nat) (yr ya : List Int) (yb : List (List Int)) (t : List Ev) (v : Value), p < x.length ∧ Okm nv na x.length ⟨p, yr, ya, yb⟩ ∧ run x n ⟨p, yr, ya, yb⟩ t = r ∧ t.length ≤ 2 * k ∧
  Kp (fun i => i = b ∨ i = be ∨ lo ≤ i ∧ i < hi) w wr ∧ wr.heap[b]? = some (.cells #[.int .i64 p, vr, va, vb] 38 (0, 0)) ∧ MachO wr lo hi vr va vb yr ya yb ∧ wr.heap[be]? = some (.cells #[v] 32 (0, 0)) ∧ OwnF 2 encE wr (w.heap.size + 1) 68 v t ∧ wr.heap[w.heap.size]? = some (.cells #[ta, tb, tc] 26 (0, 0))
/-- what the loop leaves -/
def Done (w : World) (lo hi b be nv na nl : Nat) (vr va vb : Value) (r : Option (Ms × List Ev)) (e : Ending) (w' : World) : Prop := ∃ (s : Ms) (t : List Ev) (v : Value), (r = some (s, t) ∧ e = .returned (.bool true) ∨ r = none ∧ e = .returned (.bool false)) ∧ Okm nv na nl s ∧ t.length ≤ 40000 ∧
  Kp (fun i => i = b ∨ i = be ∨ lo ≤ i ∧ i < hi) w w' ∧ w'.heap[b]? = some (.cells #[.int .i64 s.pc, vr, va, vb] 38 (0, 0)) ∧ MachO w' lo hi vr va vb s.r s.v s.a ∧ w'.heap[be]? = some (.cells #[v] 32 (0, 0)) ∧ OwnF 2 encE w' (w.heap.size + 1) 68 v t
set_option maxHeartbeats 4000000 in
set_option maxRecDepth 100000 in
theorem execute (w : World) (lo hi lc hc b be p0 : Nat) (ta tb tc vr va vb : Value) (xa xb yr ya : List Int) (x : List Ins) (yb : List (List Int)) (sa : IntsR w lc hc ta xa) (sb : IntsR w lc hc tb xb) (sx : InssR w lc hc tc x) (h1 : hc ≤ w.heap.size) (hcx : Okc ya.length yb.length x) (hk : Okm ya.length yb.length x.length ⟨p0, yr, ya, yb⟩) (hp0 : p0 < x.length) (hyb : yb.length ≤ 2)
    (hm : w.heap[b]? = some (.cells #[.int .i64 p0, vr, va, vb] 38 (0, 0))) (hO : MachO w lo hi vr va vb yr ya yb) (hh : hi ≤ w.heap.size) (he : w.heap[be]? = some (.cells #[.slice none 0 0] 32 (0, 0))) (d1 : b < lo ∨ hi ≤ b) (d2 : be < lo ∨ hi ≤ be) (d3 : b ≠ be) (d4 : b < lc ∨ hc ≤ b) (d5 : be < lc ∨ hc ≤ be) (d6 : hi ≤ lc ∨ hc ≤ lo) :
    Calls Try.prog 49 #[.agg #[ta, tb, tc], .pointer (some ⟨b, 0, none⟩), .func (.func 50) #[] #[.pointer (some ⟨be, 0, none⟩)]] w (Done w lo hi b be ya.length yb.length x.length vr va vb (run x 20000 ⟨p0, yr, ya, yb⟩ [])) := by
  obtain ⟨a1, e1, rfl, l1⟩ := sa.len
  obtain ⟨a2, e2, rfl, l2⟩ := sb.len
  obtain ⟨a3, e3, rfl, l3⟩ := sx.len
  obtain ⟨bc, oc, rfl, hbc1, hbc2, hcc⟩ := sx.at 0 hcx.pos
  clear hcc
  have bl := heap_lt hm
  have el := heap_lt he
  have hG : Going w lo hi b be ya.length yb.length vr va vb (.slice a1 xa.length e1) (.slice a2 xb.length e2) (.slice (some ⟨bc, oc, none⟩) x.length e3) x 0 20000 (run x 20000 ⟨p0, yr, ya, yb⟩ []) (w.alloc (.cells #[.slice a1 xa.length e1, .slice a2 xb.length e2, .slice (some ⟨bc, oc, none⟩) x.length e3] 26)) := by
    have k0 : New w (w.alloc (.cells #[.slice a1 xa.length e1, .slice a2 xb.length e2, .slice (some ⟨bc, oc, none⟩) x.length e3] 26)) := (Kp.refl _ _).alloc _
    exact ⟨p0, yr, ya, yb, [], .slice none 0 0, hp0, hk, rfl, Nat.le_refl _, k0.mono (fun _ _ f => f.elim), heap_new k0 hm, hO.new hh k0, heap_new k0 he, OwnF.nil _ _ _, alloc_heap _ _⟩
  have hsa := Lib.hid sa
  have hsb := Lib.hid sb
  have hsx := Lib.hid sx
  have hch := Lib.hid hcx
  have hxl := hcx.len
  have hGh := Lib.hid hG
  generalize hr0 : run x 20000 ⟨p0, yr, ya, yb⟩ [] = r0 at *
  generalize hnv : ya.length = nv at *
  generalize hna : yb.length = na at *
  clear hr0 hk hO hm he sa sb sx hcx hG hp0
  go_enter Try.func49, Try.ntmps49
  go_wp2_with fail
  generalize w.alloc (.cells #[.slice a1 xa.length e1, .slice a2 xb.length e2, .slice (some ⟨bc, oc, none⟩) x.length e3] 26) = w0 at *
  go_loopw [8] (fun i wr => ∃ k : Nat, k ≤ 20000 ∧ i = .int .i64 k ∧ Going w lo hi b be nv na vr va vb (.slice a1 xa.length e1) (.slice a2 xb.length e2) (.slice (some ⟨bc, oc, none⟩) x.length e3) x k (20000 - k) r0 wr) (fun i _ => 20000 - (intOf i).toNat)
  case atStart => exact ⟨0, Nat.zero_le _, rfl, hGh.out⟩
  case round =>
    obtain ⟨k, hk2, rfl, p, yr, ya, yb, t, v, hp, hk, hrun, htl, K, bM, hM, bE, hT, bC⟩ := hrel
    clear hGh
    have hMh := Lib.hid hM
    have hTh := Lib.hid hT
    have hkh := Lib.hid hk
    have hrh := Lib.hid hrun
    have hTl := hT.lt
    have ea := hk.vl
    have eb := hk.al
    dsimp only at ea eb
    have zr := K.size
    have bCl := heap_lt bC
    by_cases hlt : k < 20000
    · have m0 := cell_of_heap bM 0
      have bMl := heap_lt bM
      obtain ⟨cC0, cC1, cC2⟩ := cells3 bC
      have hK := Lib.hid K
      clear hM hT hk hrun K
      go_wp2_with fail
      refine (StepW.step wr lo hi b lc hc p _ _ _ vr va vb xa xb yr ya x yb (hsa.out.kp hK.out h1 (fun i e => by omega)) (hsb.out.kp hK.out h1 (fun i e => by omega)) (hsx.out.kp hK.out h1 (fun i e => by omega)) (by omega) bM hMh.out d1 (by omega) hp hxl (by rw [ea, eb]; exact hch.out.view p hp) (by rw [ea, eb]; exact hkh.out) (by omega)).mono ?_
      rintro e w1 ⟨ve, rfl, k1, bM1, hM1, hE1⟩
      have z1 := k1.size
      have bC1 := (k1.block _ bCl (by omega)).trans bC
      have bE1 := k1.bo bE
      have hT1 := Lib.hid (hTh.out.kp k1 (fun i hi e => by have := hTl i hi; omega))
      have K1 := Lib.hid (StepX.kp_on hK.out k1 (fun i _ e => by omega))
      have hM1h := Lib.hid hM1
      have hE1h := Lib.hid hE1
      clear m0 cC0 cC1 cC2 bM bC bE hM1 hE1 k1
      go_wp2_with fail
      have hle : (((5 : Int), (p : Int)) :: (eff x[p] ⟨p, yr, ya, yb⟩).2).length ≤ 2 := by have := (eff_len (hch.out.view p hp) ⟨p, yr, ya, yb⟩).2; simp; exact this
      refine (ran1 w1 be (w.heap.size + 1) _ _ p v ve t _ bE1 hT1.out hE1h.out.reads (fun e => by have := hTl _ e; omega) (by omega) (by omega)).mono ?_
      rintro e w2 ⟨rfl, v2, k2, bE2, hT2, ha2⟩
      have z2 := k2.size
      have bC2 := (k2.block _ (heap_lt bC1) (fun e => by
        rcases e with e | e
        · omega
        · have := hTl _ e; omega)).trans bC1
      have bM2 := (k2.block _ (heap_lt bM1) (fun e => by
        rcases e with e | e
        · omega
        · have := hTl _ e; omega)).trans bM1
      have K2 := StepX.kp_on K1.out k2 (fun i hi e => by
        rcases e with e | e
        · omega
        · have := hTl _ e; omega)
      have hM2 := Lib.hid (hM1h.out.kp k2 (fun i e => by
        rcases e with e | e
        · omega
        · have := hTl _ e; omega))
      have hok := eff_okm (hch.out.view p hp) hkh.out
      obtain ⟨q, hq, hql⟩ := eff_pc hch.out (s := ⟨p, yr, ya, yb⟩) hp rfl
      obtain ⟨bc', oc', e', _, _, c0, _⟩ := InssR.at (hsx.out.kp K2 h1 (fun i e => by omega)) p hp
      cases e'
      have hK2 := Lib.hid K2
      have hokh := Lib.hid hok
      have hT2h := Lib.hid hT2
      have cC2 := cell_of_heap bC2 2
      have bCl2 := heap_lt bC2
      have bcl := cell_lt c0
      rw [hq] at bM2
      have hqh := Lib.hid hq
      clear bC1 bE1 bM1 hT1 hM1h hE1h hT2 K2 hok k2 ha2 hTh hkh hMh hTl hK K1 hq
      obtain ⟨n, hn⟩ : ∃ n, 20000 - k = n + 1 := ⟨20000 - k - 1, by omega⟩
      have hn2 : 20000 - (k + 1) = n := by omega
      have hrn := hrh.out
      rw [hn] at hrn
      have hrnh := Lib.hid hrn
      have hnh := Lib.hid hn
      have hn2h := Lib.hid hn2
      have hleh := Lib.hid hle
      have eah := Lib.hid ea
      have ebh := Lib.hid eb
      clear hrh hrn hn hn2 hle ea eb
      by_cases hop : x[p].op = 13
      · have hst : r0 = some ((eff x[p] ⟨p, yr, ya, yb⟩).1, t ++ (5, (p : Int)) :: (eff x[p] ⟨p, yr, ya, yb⟩).2) := by rw [← hrnh.out]; exact run_stop hp rfl hop
        have hsth := Lib.hid hst
        clear hst
        go_wp2
        go_ret
        refine ⟨(eff x[p] ⟨p, yr, ya, yb⟩).1, _, v2, .inl ⟨hsth.out, rfl⟩, hokh.out, ?_, hK2.out, by rw [hqh.out]; exact bM2, hM2.out, bE2, hT2h.out⟩
        have := hleh.out
        simp only [List.length_append]
        omega
      · have hon := run_on (n := n) (t := t) (s := ⟨p, yr, ya, yb⟩) hp rfl hop
        have honh := Lib.hid (hrnh.out.symm.trans hon)
        clear hon
        go_wp2
        go_roundw
        case rel =>
          refine ⟨k + 1, by omega, by go_num, q, (eff x[p] ⟨p, yr, ya, yb⟩).1.r, (eff x[p] ⟨p, yr, ya, yb⟩).1.v, (eff x[p] ⟨p, yr, ya, yb⟩).1.a, _, v2, hql, ?_, ?_, ?_, hK2.out, bM2, hM2.out, bE2, hT2h.out, bC2⟩
          · rw [← hqh.out]; exact hokh.out
          · rw [hn2h.out, ← hqh.out]; exact honh.out.symm
          · have := hleh.out
            simp only [List.length_append]
            omega
        case measure => simp [intOf]; omega
    · have hk3 : k = 20000 := by omega
      subst hk3
      have hnone : r0 = none := by rw [← hrun]; rfl
      go_wp2
      go_ret
      exact ⟨⟨p, yr, ya, yb⟩, t, v, .inr ⟨hnone, rfl⟩, hkh.out, by omega, K, bM, hMh.out, bE, hTh.out⟩
end Go.Proofs.Ytbicpkmlionldaa.RunI
