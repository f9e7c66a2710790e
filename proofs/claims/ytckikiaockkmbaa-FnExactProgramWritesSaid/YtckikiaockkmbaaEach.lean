/- each of impl: what it tells of, in its order, for any closure whose contract is known. Conditions: the statements are valid; what the closure turns lies apart from what is read. -/
import Derived.Test.YtckikiaockkmbaaEachP
import Derived.Test.YtckikiaockkmbaaStF
import Derived.Test.YtckikiaockkmbaaLabE
import Derived.Test.YtckikiaockkmbaaShort
import Derived.Great.Walk
namespace Go.Proofs.Ytckikiaockkmbaa.Each
open Go.RowKit Kit Val
set_option linter.unusedVariables false
/-- what a closure does at a valid statement -/
def ToldC {σ : Type} (F : Nat) (caps : Array Value) (T : Nat → Prop) (lo hi top nv na : Nat) (Inv : World → σ → Prop) (f : St → Int → σ → σ) : Prop :=
  ∀ (w : World) (a : σ) (s : St) (x : Int) (d : Nat) (vi vv vb ve : Value), stB nv na s d = true → KidsR w lo hi vi s.index.kids → KidsR w lo hi vv s.value.kids → StsR w lo hi vb s.body → StsR w lo hi ve s.els → hi ≤ w.heap.size → top ≤ w.heap.size → Inv w a →
    Calls Try.prog F (#[.agg #[.int .i64 s.kind, .int .i64 s.target, .int .i64 s.index.kind, .int .i64 s.index.val, vi, .int .i64 s.value.kind, .int .i64 s.value.val, vv, .int .i64 s.count, vb, ve], .int .i64 x] ++ caps) w fun e w' => e = .returned (.tuple #[]) ∧ Kp T w w' ∧ Inv w' (f s x a)
def Does {σ : Type} (F : Nat) (caps : Array Value) (T : Nat → Prop) (lo hi top : Nat) (xa xb : List Int) (Inv : World → σ → Prop) (f : St → Int → σ → σ) (n : Nat) : Prop :=
  ∀ (w : World) (ta tb tc s : Value) (l : List St) (u : Int) (d : Nat) (a0 : σ), St.sizes l < n → IntsR w lo hi ta xa → IntsR w lo hi tb xb → StsR w lo hi s l → hi ≤ w.heap.size → top ≤ w.heap.size → blB xa.length xb.length l d = true → Inv w a0 →
    Calls Try.prog 62 #[.agg #[ta, tb, tc], s, .int .i64 u, .func (.func F) #[] caps] w fun e w' => e = .returned (.tuple #[]) ∧ Kp T w w' ∧ Inv w' (eachL (lab xa xb) f l u a0)
set_option maxHeartbeats 8000000 in
set_option maxRecDepth 100000 in
theorem each_step {σ : Type} (F : Nat) (he : ∀ args w, (callFunc F args).run Try.prog w = .ok (.enter F args) w) (caps : Array Value) (T : Nat → Prop) (lo hi top : Nat) (xa xb : List Int) (Inv : World → σ → Prop) (f : St → Int → σ → σ) (hF : ToldC F caps T lo hi top xa.length xb.length Inv f) (hInv : ∀ w w' a, Inv w a → New w w' → Inv w' a) (hT : ∀ k, T k → k < lo ∨ hi ≤ k) (hTt : ∀ k, T k → k < top)
    (n : Nat) (H : Does F caps T lo hi top xa xb Inv f n) (w : World) (ta tb tc s : Value) (l : List St) (u : Int) (d : Nat) (a0 : σ) (hl : St.sizes l ≤ n) (sa : IntsR w lo hi ta xa) (sb : IntsR w lo hi tb xb) (hs : StsR w lo hi s l) (h1 : hi ≤ w.heap.size) (ht : top ≤ w.heap.size) (hv : blB xa.length xb.length l d = true) (hI : Inv w a0) :
    Calls Try.prog 62 #[.agg #[ta, tb, tc], s, .int .i64 u, .func (.func F) #[] caps] w fun e w' => e = .returned (.tuple #[]) ∧ Kp T w w' ∧ Inv w' (eachL (lab xa xb) f l u a0) := by
  obtain ⟨a1, d1, rfl, m1⟩ := sa.len
  obtain ⟨a2, d2, rfl, m2⟩ := sb.len
  obtain ⟨a3, d3, rfl, m3⟩ := hs.len
  have HH := Lib.hid H
  have HF := Lib.hid hF
  have hIh := Lib.hid hI
  have hsa := Lib.hid sa
  have hsb := Lib.hid sb
  have hsh := Lib.hid hs
  have hvh := Lib.hid hv
  clear H hF hI sa sb hs hv
  go_enter Try.func62, Try.ntmps62
  go_wp2_with fail
  have N0 : New w (w.alloc (.cells #[.slice a1 xa.length d1, .slice a2 xb.length d2, tc] 37)) := (Kp.refl _ _).alloc _
  have bA_0 := alloc_heap w (.cells #[.slice a1 xa.length d1, .slice a2 xb.length d2, tc] 37)
  have y0 : w.heap.size < (w.alloc (.cells #[.slice a1 xa.length d1, .slice a2 xb.length d2, tc] 37)).heap.size := by simp
  have I0 := Lib.hid (hInv _ _ _ hIh.out N0)
  generalize w.alloc (.cells #[.slice a1 xa.length d1, .slice a2 xb.length d2, tc] 37) = w0 at *
  go_wp2_with fail
  go_loopw [13] (fun i wr => ∃ (j : Nat) (a : σ), j ≤ l.length ∧ i = .int .i64 j ∧ Kp T w0 wr ∧ Inv wr a ∧ Hid (eachL (lab xa xb) f l u a0 = eachL (lab xa xb) f (l.drop j) u a)) (fun i _ => l.length - (intOf i).toNat)
  case atStart => exact ⟨0, a0, Nat.zero_le _, rfl, Kp.refl _ _, I0.out, Lib.hid rfl⟩
  case round =>
    obtain ⟨j, a, hj, rfl, hNA, hI, hG⟩ := hrel
    have M1 : Kp T w wr := (N0.mono fun _ _ f => f.elim).trans hNA
    have zr := hNA.size
    have bA1 : wr.heap[w.heap.size]? = _ := hNA.bk bA_0 (fun q => by have := hTt _ q; omega)
    have zA : w.heap.size < wr.heap.size := by omega
    by_cases hlt : j < l.length
    · obtain ⟨b, o, vi, vv, vb, ve, e, A⟩ := (hsh.out.kp M1 h1 hT).elem j hlt
      cases e
      obtain ⟨a4, c4, rfl, _⟩ := A.ri.len
      obtain ⟨a7, c7, rfl, _⟩ := A.rv.len
      obtain ⟨a9, c9, rfl, _⟩ := A.rb.len
      obtain ⟨a10, c10, rfl, _⟩ := A.re.len
      have hp := St.parts_get l j hlt
      have hp1 : St.sizes l[j].body < n := by omega
      have hp2 : St.sizes l[j].els < n := by omega
      have hD := Lib.hid (eachL_drop (lab xa xb) f u a hlt)
      have hok := blB_get _ _ _ hvh.out j hlt
      have hokh := Lib.hid hok
      have hsub := stB_sub hok
      have HB := Lib.hid hsub.2.1
      have HL := Lib.hid hsub.2.2.1
      have HR := Lib.hid (show l[j].kind = 3 → right xa.length xb.length l[j].value = true ∧ l[j].value = .node l[j].value.kind l[j].value.val l[j].value.kids from fun q => ⟨hsub.2.2.2 q, by cases l[j].value; rfl⟩)
      have n1 : New wr (wr.alloc (.cells #[.int .i64 l[j].kind, .int .i64 l[j].target, .int .i64 l[j].index.kind, .int .i64 l[j].index.val, .slice a4 l[j].index.kids.length c4, .int .i64 l[j].value.kind, .int .i64 l[j].value.val, .slice a7 l[j].value.kids.length c7, .int .i64 l[j].count, .slice a9 l[j].body.length c9, .slice a10 l[j].els.length c10] 74)) := (Kp.refl _ _).alloc _
      have A1 := A.new (by omega) n1
      have r4 := Lib.hid A1.ri
      have r7 := Lib.hid A1.rv
      have r9 := Lib.hid A1.rb
      have r10 := Lib.hid A1.re
      obtain ⟨hblo, hbhi, e0, e1, e2, e3, e4, e5, e6, e7, e8, e9, e10, _, _, _, _⟩ := A
      have hbl : b < wr.heap.size := by omega
      have I1 := Lib.hid (hInv _ _ _ hI n1)
      have bA2 := heap_new n1 bA1
      have bS2 := alloc_heap wr (.cells #[.int .i64 l[j].kind, .int .i64 l[j].target, .int .i64 l[j].index.kind, .int .i64 l[j].index.val, .slice a4 l[j].index.kids.length c4, .int .i64 l[j].value.kind, .int .i64 l[j].value.val, .slice a7 l[j].value.kids.length c7, .int .i64 l[j].count, .slice a9 l[j].body.length c9, .slice a10 l[j].els.length c10] 74)
      have z1 : wr.heap.size < (wr.alloc (.cells #[.int .i64 l[j].kind, .int .i64 l[j].target, .int .i64 l[j].index.kind, .int .i64 l[j].index.val, .slice a4 l[j].index.kids.length c4, .int .i64 l[j].value.kind, .int .i64 l[j].value.val, .slice a7 l[j].value.kids.length c7, .int .i64 l[j].count, .slice a9 l[j].body.length c9, .slice a10 l[j].els.length c10] 74)).heap.size := by simp
      have M2 := M1.trans (n1.mono fun _ _ f => f.elim)
      have K2 : Kp T wr (wr.alloc (.cells #[.int .i64 l[j].kind, .int .i64 l[j].target, .int .i64 l[j].index.kind, .int .i64 l[j].index.val, .slice a4 l[j].index.kids.length c4, .int .i64 l[j].value.kind, .int .i64 l[j].value.val, .slice a7 l[j].value.kids.length c7, .int .i64 l[j].count, .slice a9 l[j].body.length c9, .slice a10 l[j].els.length c10] 74)) := n1.mono fun _ _ f => f.elim
      clear A1 hp hok hsub hI n1 bA1
      generalize l[j] = x at *
      go_wp2_with fail
      clear e0 e1 e2 e3 e4 e5 e6 e7 e8 e9 e10
      generalize hbo : wr.heap.size = bo at bS2 z1 ⊢
      generalize wr.alloc (.cells #[.int .i64 x.kind, .int .i64 x.target, .int .i64 x.index.kind, .int .i64 x.index.val, .slice a4 x.index.kids.length c4, .int .i64 x.value.kind, .int .i64 x.value.val, .slice a7 x.value.kids.length c7, .int .i64 x.count, .slice a9 x.body.length c9, .slice a10 x.els.length c10] 74) = w2 at *
      refine (HF.out w2 a x u d _ _ _ _ hokh.out r4.out r7.out r9.out r10.out (by omega) (by omega) I1.out).mono ?_
      rintro e w3 ⟨rfl, k3, I3x⟩
      have I3 := Lib.hid I3x
      clear I3x
      have z3 := k3.size
      have bA3 := k3.bk bA2 (fun q => by have := hTt _ q; omega)
      have bS3 := k3.bk bS2 (fun q => by have := hTt _ q; omega)
      have M3 := M2.trans (k3.mono fun _ _ q => q)
      have K3 : Kp T w2 w3 := k3
      have h3 : hi ≤ w2.heap.size := by omega
      skip
      by_cases k3 : x.kind = 3
      · have hk3 : (x.kind == 3) = true := by simp [k3]
        obtain ⟨cA0, cA1, cA2⟩ := cells3 bA3
        obtain ⟨cS0, cS1, cS2, cS3, cS4, cS5, cS6, cS7⟩ := cells8 bS3
        have cS8 := cell_of_heap bS3 8
        have cS9 := cell_of_heap bS3 9
        have cS10 := cell_of_heap bS3 10
        go_wp2_with fail
        have hrv := HR.out k3
        have hv2 := Lib.hid hrv.2
        have hr1 := Lib.hid (show right xa.length xb.length (.node x.value.kind x.value.val x.value.kids) = true by rw [← hrv.2]; exact hrv.1)
        clear hrv
        refine (LabE.Impl.label (k := x.value.kind) (v := x.value.val) (l := x.value.kids) (hsa.out.kp M3 h1 hT) (hsb.out.kp M3 h1 hT) (r7.out.kp K3 h3 hT) (by omega) (by omega) hr1.out).mono ?_
        rintro e w4 ⟨rfl, n4⟩
        have z4 := n4.size
        rw [← hv2.out]
        clear hv2 hr1
        clear cA0 cA1 cA2 cS0 cS1 cS2 cS3 cS4 cS5 cS6 cS7 cS8 cS9 cS10
        have bA4 := heap_new n4 bA3
        have bS4 := heap_new n4 bS3
        have M4 := M3.trans (n4.mono fun _ _ f => f.elim)
        have K4 := K3.trans (n4.mono fun _ _ f => f.elim)
        have I4 := Lib.hid (hInv _ _ _ I3.out n4)
        have hin := Lib.hid (show inCtx (lab xa xb) x.kind x.value u = bits .or .i64 u (lab xa xb x.value) by rw [inCtx, if_pos k3])
        clear bA3 bS3 n4 hk3 k3 I3
        obtain ⟨cA0, cA1, cA2⟩ := cells3 bA4
        obtain ⟨cS0, cS1, cS2, cS3, cS4, cS5, cS6, cS7⟩ := cells8 bS4
        have cS8 := cell_of_heap bS4 8
        have cS9 := cell_of_heap bS4 9
        have cS10 := cell_of_heap bS4 10
        go_wp2_with fail
        clear cA0 cA1 cA2 cS0 cS1 cS2 cS3 cS4 cS5 cS6 cS7 cS8 cS9 cS10
        refine (HH.out _ _ _ _ _ _ (bits .or .i64 u (lab xa xb x.value)) (d - 1) _ hp1 (hsa.out.kp M4 h1 hT) (hsb.out.kp M4 h1 hT) (r9.out.kp K4 h3 hT) (by omega) (by omega) HB.out I4.out).mono ?_
        rintro e w5 ⟨rfl, k5, I5⟩
        have z5 := k5.size
        have bA5 := k5.bk bA4 (fun q => by have := hTt _ q; omega)
        have bS5 := k5.bk bS4 (fun q => by have := hTt _ q; omega)
        have M5 := M4.trans (k5.mono fun _ _ q => q)
        have K5 := K4.trans (k5.mono fun _ _ q => q)
        have I5h := Lib.hid I5
        clear bA4 bS4 k5 I5 I4
        obtain ⟨cA0, cA1, cA2⟩ := cells3 bA5
        obtain ⟨cS0, cS1, cS2, cS3, cS4, cS5, cS6, cS7⟩ := cells8 bS5
        have cS8 := cell_of_heap bS5 8
        have cS9 := cell_of_heap bS5 9
        have cS10 := cell_of_heap bS5 10
        go_wp2_with fail
        clear cA0 cA1 cA2 cS0 cS1 cS2 cS3 cS4 cS5 cS6 cS7 cS8 cS9 cS10
        refine (HH.out _ _ _ _ _ _ (bits .or .i64 u (lab xa xb x.value)) (d - 1) _ hp2 (hsa.out.kp M5 h1 hT) (hsb.out.kp M5 h1 hT) (r10.out.kp K5 h3 hT) (by omega) (by omega) HL.out I5h.out).mono ?_
        rintro e w6 ⟨rfl, k6, I6⟩
        have M6 := M5.trans (k6.mono fun _ _ q => q)
        have N6 := (hNA.trans K2).trans (K5.trans (k6.mono fun _ _ q => q))
        have zz := k6.size
        have hgo := Lib.hid (hD.out.symm)
        have hgo2 := Lib.hid (show eachL (lab xa xb) f l u a0 = eachL (lab xa xb) f (l.drop (j + 1)) u (eachL (lab xa xb) f x.els (bits .or .i64 u (lab xa xb x.value)) (eachL (lab xa xb) f x.body (bits .or .i64 u (lab xa xb x.value)) (f x u a))) by rw [hG.out, hD.out, eachS_eq, hin.out])
        have I6h := Lib.hid I6
        clear I5h bA5 bS5 k6 I6 hgo hin
        generalize eachL (lab xa xb) f x.els (bits .or .i64 u (lab xa xb x.value)) (eachL (lab xa xb) f x.body (bits .or .i64 u (lab xa xb x.value)) (f x u a)) = a2 at *
        go_wp2
        go_roundw
        case rel => exact ⟨j + 1, a2, by omega, by go_num, N6, I6h.out, hgo2⟩
        case measure => simp [intOf]; omega
      · have hk3 : (x.kind == 3) = false := by simp [k3]
        have hin := Lib.hid (show inCtx (lab xa xb) x.kind x.value u = u by rw [inCtx, if_neg k3])
        have bA4 := bA3
        have bS4 := bS3
        have M4 := M3
        have K4 := K3
        have I4 := I3
        have z4 : w3.heap.size ≤ w3.heap.size := Nat.le_refl _
        clear bA3 bS3 I3 k3
        obtain ⟨cA0, cA1, cA2⟩ := cells3 bA4
        obtain ⟨cS0, cS1, cS2, cS3, cS4, cS5, cS6, cS7⟩ := cells8 bS4
        have cS8 := cell_of_heap bS4 8
        have cS9 := cell_of_heap bS4 9
        have cS10 := cell_of_heap bS4 10
        go_wp2_with fail
        clear cA0 cA1 cA2 cS0 cS1 cS2 cS3 cS4 cS5 cS6 cS7 cS8 cS9 cS10
        refine (HH.out _ _ _ _ _ _ u (d - 1) _ hp1 (hsa.out.kp M4 h1 hT) (hsb.out.kp M4 h1 hT) (r9.out.kp K4 h3 hT) (by omega) (by omega) HB.out I4.out).mono ?_
        rintro e w5 ⟨rfl, k5, I5⟩
        have z5 := k5.size
        have bA5 := k5.bk bA4 (fun q => by have := hTt _ q; omega)
        have bS5 := k5.bk bS4 (fun q => by have := hTt _ q; omega)
        have M5 := M4.trans (k5.mono fun _ _ q => q)
        have K5 := K4.trans (k5.mono fun _ _ q => q)
        have I5h := Lib.hid I5
        clear bA4 bS4 k5 I5 I4
        obtain ⟨cA0, cA1, cA2⟩ := cells3 bA5
        obtain ⟨cS0, cS1, cS2, cS3, cS4, cS5, cS6, cS7⟩ := cells8 bS5
        have cS8 := cell_of_heap bS5 8
        have cS9 := cell_of_heap bS5 9
        have cS10 := cell_of_heap bS5 10
        go_wp2_with fail
        clear cA0 cA1 cA2 cS0 cS1 cS2 cS3 cS4 cS5 cS6 cS7 cS8 cS9 cS10
        refine (HH.out _ _ _ _ _ _ u (d - 1) _ hp2 (hsa.out.kp M5 h1 hT) (hsb.out.kp M5 h1 hT) (r10.out.kp K5 h3 hT) (by omega) (by omega) HL.out I5h.out).mono ?_
        rintro e w6 ⟨rfl, k6, I6⟩
        have M6 := M5.trans (k6.mono fun _ _ q => q)
        have N6 := (hNA.trans K2).trans (K5.trans (k6.mono fun _ _ q => q))
        have zz := k6.size
        have hgo := Lib.hid (hD.out.symm)
        have hgo2 := Lib.hid (show eachL (lab xa xb) f l u a0 = eachL (lab xa xb) f (l.drop (j + 1)) u (eachL (lab xa xb) f x.els u (eachL (lab xa xb) f x.body u (f x u a))) by rw [hG.out, hD.out, eachS_eq, hin.out])
        have I6h := Lib.hid I6
        clear I5h bA5 bS5 k6 I6 hgo hin
        generalize eachL (lab xa xb) f x.els u (eachL (lab xa xb) f x.body u (f x u a)) = a2 at *
        go_wp2
        go_roundw
        case rel => exact ⟨j + 1, a2, by omega, by go_num, N6, I6h.out, hgo2⟩
        case measure => simp [intOf]; omega
    · have hfin := Lib.hid (show eachL (lab xa xb) f l u a0 = a by have h := hG.out; rw [List.drop_of_length_le (by omega)] at h; exact h)
      have hge : l.length ≤ j := by omega
      clear hG
      go_wp2
      exact Go.Great.bodyPost_end0 rfl rfl ⟨rfl, M1, by rw [hfin.out]; exact hI⟩
theorem does {σ : Type} (F : Nat) (he : ∀ args w, (callFunc F args).run Try.prog w = .ok (.enter F args) w) (caps : Array Value) (T : Nat → Prop) (lo hi top : Nat) (xa xb : List Int) (Inv : World → σ → Prop) (f : St → Int → σ → σ) (hF : ToldC F caps T lo hi top xa.length xb.length Inv f) (hInv : ∀ w w' a, Inv w a → New w w' → Inv w' a) (hT : ∀ k, T k → k < lo ∨ hi ≤ k) (hTt : ∀ k, T k → k < top) : ∀ n, Does F caps T lo hi top xa xb Inv f n
  | 0 => fun w ta tb tc s l u d a0 hl => absurd hl (Nat.not_lt_zero _)
  | n + 1 => fun w ta tb tc s l u d a0 hl sa sb hs h1 ht hv hI => each_step F he caps T lo hi top xa xb Inv f hF hInv hT hTt n (does F he caps T lo hi top xa xb Inv f hF hInv hT hTt n) w ta tb tc s l u d a0 (Nat.le_of_lt_succ hl) sa sb hs h1 ht hv hI
end Go.Proofs.Ytckikiaockkmbaa.Each
