/- CountStmts and ReleaseFree of both. Condition (spec): at most 2^20 nodes. -/
import Derived.Test.YtbnhhmgdkiomoaaEach
import Derived.Test.YtbnhhmgdkiomoaaPgmV
import Derived.Test.YtbnhhmgdkiomoaaFlowP
import Derived.Test.YtbnhhmgdkiomoaaShort
namespace Go.Proofs.Ytbnhhmgdkiomoaa.Val
/-- what CountStmts answers -/
def cntB (xa xb : List Int) (l : List St) : Int := if progB xa xb l then (stsN l : Int) else 0
def freeB (xa xb : List Int) (l : List St) : Bool := progB xa xb l && freeL l
end Go.Proofs.Ytbnhhmgdkiomoaa.Val
namespace Go.Proofs.Ytbnhhmgdkiomoaa.CountC
open Go.RowKit Kit Val Each
set_option linter.unusedVariables false
set_option maxHeartbeats 2000000 in
theorem count1 (b lo hi top nv na : Nat) : ToldC 71 #[.pointer (some ⟨b, 0, none⟩)] (fun k => k = b) lo hi top nv na (fun w a => w.heap[b]? = some (.cells #[.int .i64 a] 3 (0, 0))) (fun s _ a => cntG s a) := by
  intro w a s x d vi vv vb ve hv ri rv rb re h1 ht hI
  obtain ⟨a4, c4, rfl, _⟩ := ri.len
  obtain ⟨a7, c7, rfl, _⟩ := rv.len
  obtain ⟨a9, c9, rfl, _⟩ := rb.len
  obtain ⟨a10, c10, rfl, _⟩ := re.len
  have hbl := heap_lt hI
  have c0 := cell_of_heap hI 0
  have cf := frozen_of_heap hI
  have kk : Kp (fun k => k = b) w ((w.setCell ⟨b, 0, none⟩ (.int .i64 (cntG s a))).alloc (.cells #[.int .i64 s.kind, .int .i64 s.target, .int .i64 s.index.kind, .int .i64 s.index.val, .slice a4 s.index.kids.length c4, .int .i64 s.value.kind, .int .i64 s.value.val, .slice a7 s.value.kids.length c7, .int .i64 s.count, .slice a9 s.body.length c9, .slice a10 s.els.length c10] 73)) := ((Kp.refl (fun k => k = b) w).setCell (.inl rfl) _).alloc _
  have hz := heap_old (x := (.cells #[.int .i64 s.kind, .int .i64 s.target, .int .i64 s.index.kind, .int .i64 s.index.val, .slice a4 s.index.kids.length c4, .int .i64 s.value.kind, .int .i64 s.value.val, .slice a7 s.value.kids.length c7, .int .i64 s.count, .slice a9 s.body.length c9, .slice a10 s.els.length c10] 73)) (setCell_heap (o := 0) hI (.int .i64 (cntG s a)))
  clear hI ri rv rb re hv
  show Calls _ _ #[.agg #[.int .i64 s.kind, .int .i64 s.target, .int .i64 s.index.kind, .int .i64 s.index.val, .slice a4 s.index.kids.length c4, .int .i64 s.value.kind, .int .i64 s.value.val, .slice a7 s.value.kids.length c7, .int .i64 s.count, .slice a9 s.body.length c9, .slice a10 s.els.length c10], .int .i64 x, .pointer (some ⟨b, 0, none⟩)] _ _
  have e : cntG s a = wrap64 (a + 1) := IntWalk.i64_left _
  rw [e] at kk hz
  dsimp only
  rw [e]
  go_enter Try.func71, Try.ntmps71
  go_wp2
  exact Go.Great.bodyPost_end0 rfl rfl ⟨rfl, kk, hz⟩
set_option maxHeartbeats 4000000 in
theorem implC {w : World} {lo hi : Nat} {ta tb tc : Value} {xa xb : List Int} {l : List St} (sa : IntsR w lo hi ta xa) (sb : IntsR w lo hi tb xb) (s : StsR w lo hi tc l) (h1 : hi ≤ w.heap.size) :
    Calls Try.prog 23 #[.agg #[ta, tb, tc]] w fun e w' => e = .returned (.int .i64 (cntB xa xb l)) ∧ New w w' := by
  obtain ⟨a1, d1, rfl, m1⟩ := sa.len
  obtain ⟨a2, d2, rfl, m2⟩ := sb.len
  obtain ⟨a3, d3, rfl, m3⟩ := s.len
  go_enter Try.func23, Try.ntmps23
  go_wp2_with fail
  have N0 : New w (w.alloc (.cells #[.slice a1 xa.length d1, .slice a2 xb.length d2, .slice a3 l.length d3] 33)) := ((Kp.refl _ _).alloc _)
  have bA_0 : (w.alloc (.cells #[.slice a1 xa.length d1, .slice a2 xb.length d2, .slice a3 l.length d3] 33)).heap[w.heap.size]? = some (.cells #[.slice a1 xa.length d1, .slice a2 xb.length d2, .slice a3 l.length d3] 33) := alloc_heap _ _
  have z0 : w.heap.size < (w.alloc (.cells #[.slice a1 xa.length d1, .slice a2 xb.length d2, .slice a3 l.length d3] 33)).heap.size := by simp
  generalize (w.alloc (.cells #[.slice a1 xa.length d1, .slice a2 xb.length d2, .slice a3 l.length d3] 33)) = w0 at *
  obtain ⟨bA_0_c0, bA_0_c1, bA_0_c2⟩ := cells3 bA_0
  go_wp2_with fail
  refine (PgmV.implP (sa.new h1 N0) (sb.new h1 N0) (s.new h1 N0) (by omega)).mono ?_
  rintro e w1 ⟨rfl, hn1⟩
  have z1 := hn1.size
  have N1 : New w w1 := N0.trans hn1
  have bA_1 := heap_new hn1 bA_0
  clear bA_0_c0 bA_0_c1 bA_0_c2
  clear bA_0 hn1
  cases b1 : progB xa xb l
  · have D := Lib.hid (show (cntB xa xb l) = 0 by rw [cntB, b1]; rfl)
    clear b1
    go_wp2
    go_ret
    exact ⟨retI D.out.symm, N1⟩
  have Hb1 := Lib.hid b1
  clear b1
  obtain ⟨bA_1_c0, bA_1_c1, bA_1_c2⟩ := cells3 bA_1
  have hn2 : New w1 (w1.alloc (.cells #[.int .i64 0] 3)) := (Kp.refl _ _).alloc _
  have z2 : w1.heap.size < (w1.alloc (.cells #[.int .i64 0] 3)).heap.size := by simp
  have N2 : New w (w1.alloc (.cells #[.int .i64 0] 3)) := N1.trans hn2
  have bA_2 := heap_new hn2 bA_1
  have bQ_2 : (w1.alloc (.cells #[.int .i64 0] 3)).heap[w1.heap.size]? = some (.cells #[.int .i64 0] 3) := alloc_heap _ _
  clear bA_1_c0 bA_1_c1 bA_1_c2
  clear bA_1 hn2
  obtain ⟨bA_2_c0, bA_2_c1, bA_2_c2⟩ := cells3 bA_2
  have bQ_2_c0 := cell_of_heap bQ_2 0
  go_wp2_with fail
  generalize (w1.alloc (.cells #[.int .i64 0] 3)) = w2 at *
  clear bA_2_c0 bA_2_c1 bA_2_c2 bQ_2_c0
  refine (Each.does 71 (enters_of Try.func71 (by kernel_rfl) rfl) #[.pointer (some ⟨w1.heap.size, 0, none⟩)] (fun k => k = w1.heap.size) lo hi (w1.heap.size + 1) xa xb (fun w a => w.heap[w1.heap.size]? = some (.cells #[.int .i64 a] 3 (0, 0))) (fun s _ a => cntG s a) (count1 _ lo hi _ _ _) (fun _ _ _ h k => heap_new k h) (fun _ e => by omega) (fun _ e => by omega) _ w2 _ _ _ _ l 0 5 (0 : Int) (Nat.lt_succ_self _) (sa.new h1 N2) (sb.new h1 N2) (s.new h1 N2) (by omega) (by omega) (valid_bl Hb1.out) bQ_2).mono ?_
  rintro e w3 ⟨rfl, k3, hI⟩
  have N3 : New w w3 := New.one N2 k3 (by omega)
  rw [eachL_fold] at hI
  have D := Lib.hid (show cntB xa xb l = foldL cntG l 0 by rw [cntB, Hb1.out, foldL_cnt l 0 (by omega) (by have := (valid_N Hb1.out).1; omega)]; simp)
  have cQ := cell_of_heap hI 0
  clear hI k3 bA_2 bQ_2 Hb1
  go_wp2
  go_ret
  exact ⟨retI D.out.symm, N3⟩
set_option maxHeartbeats 2000000 in
theorem free1 (b lo hi top nv na : Nat) : ToldC 82 #[.pointer (some ⟨b, 0, none⟩)] (fun k => k = b) lo hi top nv na (fun w a => w.heap[b]? = some (.cells #[.bool a] 4 (0, 0))) (fun s _ a => relG s a) := by
  intro w a s x d vi vv vb ve hv ri rv rb re h1 ht hI
  obtain ⟨a4, c4, rfl, _⟩ := ri.len
  obtain ⟨a7, c7, rfl, _⟩ := rv.len
  obtain ⟨a9, c9, rfl, _⟩ := rb.len
  obtain ⟨a10, c10, rfl, _⟩ := re.len
  have hbl := heap_lt hI
  have c0 := cell_of_heap hI 0
  have cf := frozen_of_heap hI
  have kk : Kp (fun k => k = b) w ((w.setCell ⟨b, 0, none⟩ (.bool (relG s a))).alloc (.cells #[.int .i64 s.kind, .int .i64 s.target, .int .i64 s.index.kind, .int .i64 s.index.val, .slice a4 s.index.kids.length c4, .int .i64 s.value.kind, .int .i64 s.value.val, .slice a7 s.value.kids.length c7, .int .i64 s.count, .slice a9 s.body.length c9, .slice a10 s.els.length c10] 73)) := ((Kp.refl (fun k => k = b) w).setCell (.inl rfl) _).alloc _
  have hz := heap_old (x := (.cells #[.int .i64 s.kind, .int .i64 s.target, .int .i64 s.index.kind, .int .i64 s.index.val, .slice a4 s.index.kids.length c4, .int .i64 s.value.kind, .int .i64 s.value.val, .slice a7 s.value.kids.length c7, .int .i64 s.count, .slice a9 s.body.length c9, .slice a10 s.els.length c10] 73)) (setCell_heap (o := 0) hI (.bool (relG s a)))
  clear hI ri rv rb re hv
  show Calls _ _ #[.agg #[.int .i64 s.kind, .int .i64 s.target, .int .i64 s.index.kind, .int .i64 s.index.val, .slice a4 s.index.kids.length c4, .int .i64 s.value.kind, .int .i64 s.value.val, .slice a7 s.value.kids.length c7, .int .i64 s.count, .slice a9 s.body.length c9, .slice a10 s.els.length c10], .int .i64 x, .pointer (some ⟨b, 0, none⟩)] _ _
  cases a
  · have e : relG s false = (s.kind == 5) := by simp [relG]
    rw [e] at kk hz
    dsimp only
    rw [e]
    go_enter Try.func82, Try.ntmps82
    go_wp2
    exact Go.Great.bodyPost_end0 rfl rfl ⟨rfl, kk, hz⟩
  · have e : relG s true = true := by simp [relG]
    rw [e] at kk hz
    dsimp only
    rw [e]
    go_enter Try.func82, Try.ntmps82
    go_wp2
    exact Go.Great.bodyPost_end0 rfl rfl ⟨rfl, kk, hz⟩
set_option maxHeartbeats 4000000 in
theorem implF {w : World} {lo hi : Nat} {ta tb tc : Value} {xa xb : List Int} {l : List St} (sa : IntsR w lo hi ta xa) (sb : IntsR w lo hi tb xb) (s : StsR w lo hi tc l) (h1 : hi ≤ w.heap.size) :
    Calls Try.prog 34 #[.agg #[ta, tb, tc]] w fun e w' => e = .returned (.bool (freeB xa xb l)) ∧ New w w' := by
  obtain ⟨a1, d1, rfl, m1⟩ := sa.len
  obtain ⟨a2, d2, rfl, m2⟩ := sb.len
  obtain ⟨a3, d3, rfl, m3⟩ := s.len
  go_enter Try.func34, Try.ntmps34
  go_wp2_with fail
  have N0 : New w (w.alloc (.cells #[.slice a1 xa.length d1, .slice a2 xb.length d2, .slice a3 l.length d3] 33)) := ((Kp.refl _ _).alloc _)
  have bA_0 : (w.alloc (.cells #[.slice a1 xa.length d1, .slice a2 xb.length d2, .slice a3 l.length d3] 33)).heap[w.heap.size]? = some (.cells #[.slice a1 xa.length d1, .slice a2 xb.length d2, .slice a3 l.length d3] 33) := alloc_heap _ _
  have z0 : w.heap.size < (w.alloc (.cells #[.slice a1 xa.length d1, .slice a2 xb.length d2, .slice a3 l.length d3] 33)).heap.size := by simp
  generalize (w.alloc (.cells #[.slice a1 xa.length d1, .slice a2 xb.length d2, .slice a3 l.length d3] 33)) = w0 at *
  obtain ⟨bA_0_c0, bA_0_c1, bA_0_c2⟩ := cells3 bA_0
  go_wp2_with fail
  refine (PgmV.implP (sa.new h1 N0) (sb.new h1 N0) (s.new h1 N0) (by omega)).mono ?_
  rintro e w1 ⟨rfl, hn1⟩
  have z1 := hn1.size
  have N1 : New w w1 := N0.trans hn1
  have bA_1 := heap_new hn1 bA_0
  clear bA_0_c0 bA_0_c1 bA_0_c2
  clear bA_0 hn1
  cases b1 : progB xa xb l
  · have D := Lib.hid (show (freeB xa xb l) = false by rw [freeB, b1]; rfl)
    clear b1
    go_wp2
    go_ret
    exact ⟨retB D.out.symm, N1⟩
  have Hb1 := Lib.hid b1
  clear b1
  obtain ⟨bA_1_c0, bA_1_c1, bA_1_c2⟩ := cells3 bA_1
  have hn2 : New w1 (w1.alloc (.cells #[.bool false] 4)) := (Kp.refl _ _).alloc _
  have z2 : w1.heap.size < (w1.alloc (.cells #[.bool false] 4)).heap.size := by simp
  have N2 : New w (w1.alloc (.cells #[.bool false] 4)) := N1.trans hn2
  have bA_2 := heap_new hn2 bA_1
  have bQ_2 : (w1.alloc (.cells #[.bool false] 4)).heap[w1.heap.size]? = some (.cells #[.bool false] 4) := alloc_heap _ _
  clear bA_1_c0 bA_1_c1 bA_1_c2
  clear bA_1 hn2
  obtain ⟨bA_2_c0, bA_2_c1, bA_2_c2⟩ := cells3 bA_2
  have bQ_2_c0 := cell_of_heap bQ_2 0
  go_wp2_with fail
  generalize (w1.alloc (.cells #[.bool false] 4)) = w2 at *
  clear bA_2_c0 bA_2_c1 bA_2_c2 bQ_2_c0
  refine (Each.does 82 (enters_of Try.func82 (by kernel_rfl) rfl) #[.pointer (some ⟨w1.heap.size, 0, none⟩)] (fun k => k = w1.heap.size) lo hi (w1.heap.size + 1) xa xb (fun w a => w.heap[w1.heap.size]? = some (.cells #[.bool a] 4 (0, 0))) (fun s _ a => relG s a) (free1 _ lo hi _ _ _) (fun _ _ _ h k => heap_new k h) (fun _ e => by omega) (fun _ e => by omega) _ w2 _ _ _ _ l 0 5 false (Nat.lt_succ_self _) (sa.new h1 N2) (sb.new h1 N2) (s.new h1 N2) (by omega) (by omega) (valid_bl Hb1.out) bQ_2).mono ?_
  rintro e w3 ⟨rfl, k3, hI⟩
  have N3 : New w w3 := New.one N2 k3 (by omega)
  rw [eachL_fold] at hI
  have D := Lib.hid (show freeB xa xb l = !foldL relG l false by rw [freeB, Hb1.out, foldL_rel]; simp)
  have cQ := cell_of_heap hI 0
  clear hI k3 bA_2 bQ_2 Hb1
  go_wp2
  go_ret
  exact ⟨retB D.out.symm, N3⟩
set_option maxHeartbeats 4000000 in
theorem specC {w : World} {lo hi : Nat} {ta tb tc : Value} {xa xb : List Int} {l : List St} (sa : IntsR w lo hi ta xa) (sb : IntsR w lo hi tb xb) (s : StsR w lo hi tc l) (h1 : hi ≤ w.heap.size) (hm : St.sizes l ≤ 1048576) :
    Calls Try.prog 25 #[.agg #[ta, tb, tc]] w fun e w' => e = .returned (.int .i64 (cntB xa xb l)) ∧ New w w' := by
  obtain ⟨a1, d1, rfl, m1⟩ := sa.len
  obtain ⟨a2, d2, rfl, m2⟩ := sb.len
  obtain ⟨a3, d3, rfl, m3⟩ := s.len
  go_enter Try.func25, Try.ntmps25
  go_wp2_with fail
  have N0 : New w (w.alloc (.cells #[.slice a1 xa.length d1, .slice a2 xb.length d2, .slice a3 l.length d3] 33)) := ((Kp.refl _ _).alloc _)
  have bA_0 : (w.alloc (.cells #[.slice a1 xa.length d1, .slice a2 xb.length d2, .slice a3 l.length d3] 33)).heap[w.heap.size]? = some (.cells #[.slice a1 xa.length d1, .slice a2 xb.length d2, .slice a3 l.length d3] 33) := alloc_heap _ _
  have z0 : w.heap.size < (w.alloc (.cells #[.slice a1 xa.length d1, .slice a2 xb.length d2, .slice a3 l.length d3] 33)).heap.size := by simp
  generalize (w.alloc (.cells #[.slice a1 xa.length d1, .slice a2 xb.length d2, .slice a3 l.length d3] 33)) = w0 at *
  obtain ⟨bA_0_c0, bA_0_c1, bA_0_c2⟩ := cells3 bA_0
  go_wp2_with fail
  refine (PgmV.specP (sa.new h1 N0) (sb.new h1 N0) (s.new h1 N0) (by omega) hm).mono ?_
  rintro e w1 ⟨rfl, hn1⟩
  have z1 := hn1.size
  have N1 : New w w1 := N0.trans hn1
  have bA_1 := heap_new hn1 bA_0
  clear bA_0_c0 bA_0_c1 bA_0_c2
  clear bA_0 hn1
  cases b1 : progB xa xb l
  · have D := Lib.hid (show (cntB xa xb l) = 0 by rw [cntB, b1]; rfl)
    clear b1
    go_wp2
    go_ret
    exact ⟨retI D.out.symm, N1⟩
  have Hb1 := Lib.hid b1
  clear b1
  obtain ⟨bA_1_c0, bA_1_c1, bA_1_c2⟩ := cells3 bA_1
  go_wp2_with fail
  refine (SizeV.does _ w1 lo hi _ l 5 (Nat.lt_succ_self _) hm (s.new h1 N1) (by omega) (by omega) (by omega)).mono ?_
  rintro e w' ⟨rfl, kk, rfl⟩
  rw [show (5 : Int).toNat = 5 from rfl]
  have NZ : New w (w1.drewN kk) := N1.trans (drewN_kp _ kk (Kp.refl _ _))
  have D := Lib.hid (show cntB xa xb l = (stsZ l 5 : Int) by rw [cntB, Hb1.out, (valid_N Hb1.out).2]; rfl)
  clear Hb1
  go_wp2
  go_ret
  exact ⟨retI D.out.symm, NZ⟩
def FreeDoes (n : Nat) : Prop := ∀ (w : World) (lo hi : Nat) (s : Value) (l : List St), St.sizes l < n → StsR w lo hi s l → hi ≤ w.heap.size →
  Calls Try.prog 81 #[s] w fun e w' => e = .returned (.bool (freeL l)) ∧ New w w'
set_option maxHeartbeats 4000000 in
theorem free_step (n : Nat) (H : FreeDoes n) (w : World) (lo hi : Nat) (s : Value) (l : List St) (hl : St.sizes l ≤ n) (hs : StsR w lo hi s l) (h1 : hi ≤ w.heap.size) :
    Calls Try.prog 81 #[s] w fun e w' => e = .returned (.bool (freeL l)) ∧ New w w' := by
  obtain ⟨aa, cc, rfl, hl1⟩ := hs.len
  have HH := Lib.hid H
  have hsh := Lib.hid hs
  clear H hs
  go_enter Try.func81, Try.ntmps81
  go_wp2_with fail
  go_loopw [3] (fun i wr => ∃ j : Nat, j ≤ l.length ∧ i = .int .i64 j ∧ New w wr ∧ Hid (freeL (l.take j) = true)) (fun i _ => l.length - (intOf i).toNat)
  case atStart => exact ⟨0, Nat.zero_le _, rfl, Kp.refl _ _, Lib.hid (by simp [freeL])⟩
  case round =>
    obtain ⟨j, hj, rfl, hN, hG⟩ := hrel
    by_cases hlt : j < l.length
    · obtain ⟨b, o, vi, vv, vb, ve, e, A⟩ := (hsh.out.new h1 hN).elem j hlt
      cases e
      have hz := hN.size
      have e0 := A.c0
      have e9 := A.c9
      have e10 := A.c10
      obtain ⟨ab, cb, rfl, _⟩ := A.rb.len
      obtain ⟨ae, ce, rfl, _⟩ := A.re.len
      have r9 := Lib.hid A.rb
      have r10 := Lib.hid A.re
      have hbl : b < wr.heap.size := by have := A.hhi; omega
      have hp := St.parts_get l j hlt
      have hp1 : St.sizes l[j].body < n := by omega
      have hp2 : St.sizes l[j].els < n := by omega
      have hbad := Lib.hid (freeL_bad l j hlt)
      have hT := Lib.hid (freeL_take hlt)
      have hE := Lib.hid (freeS_eq l[j])
      clear A hp
      generalize l[j] = x at *
      by_cases k5 : x.kind = 5
      · have D := Lib.hid (show freeL l = false from hbad.out (by rw [hE.out]; simp [k5]))
        rw [k5] at e0
        clear hbad hT hE k5 hG
        go_wp2
        go_ret
        exact ⟨retB D.out.symm, hN⟩
      have k5b : (x.kind == 5) = false := by simp [k5]
      clear k5
      go_wp2_with fail
      refine (HH.out _ lo hi _ _ hp1 r9.out (by omega)).mono ?_
      rintro r w1 ⟨rfl, hn1⟩
      have hN1 := hN.trans hn1
      have z1 := hn1.size
      have f0 := (hn1.cell hbl (fun f => f) _).trans e0
      have f9 := (hn1.cell hbl (fun f => f) _).trans e9
      have f10 := (hn1.cell hbl (fun f => f) _).trans e10
      have r10b := Lib.hid (r10.out.new (by omega) hn1)
      clear e0 e9 e10 r10 r9
      have hbl1 : b < w1.heap.size := by omega
      cases p1 : freeL x.body
      · have D := Lib.hid (show freeL l = false from hbad.out (by rw [hE.out, p1]; simp))
        clear hbad hT hE p1 hG
        go_wp2
        go_ret
        exact ⟨retB D.out.symm, hN1⟩
      have P1 := Lib.hid p1
      clear p1
      go_wp2_with fail
      refine (HH.out _ lo hi _ _ hp2 r10b.out (by omega)).mono ?_
      rintro r w2 ⟨rfl, hn2⟩
      have hN2 := hN1.trans hn2
      cases p2 : freeL x.els
      · have D := Lib.hid (show freeL l = false from hbad.out (by rw [hE.out, p2]; simp))
        clear hbad hT hE p2 hG
        go_wp2
        go_ret
        exact ⟨retB D.out.symm, hN2⟩
      have hG2 := Lib.hid (show freeL (l.take (j + 1)) = true by rw [hT.out, hG.out, hE.out, P1.out, p2, k5b]; rfl)
      clear hbad hT hE p2 hG P1
      go_wp2
      go_roundw
      case rel => exact ⟨j + 1, by omega, by go_num, hN2, hG2⟩
      case measure => simp [intOf]; omega
    · have D := Lib.hid (show freeL l = true by have h := hG.out; rwa [List.take_of_length_le (by omega)] at h)
      have hge : l.length ≤ j := by omega
      clear hG
      go_wp2
      go_ret
      exact ⟨retB D.out.symm, hN⟩
theorem free : ∀ n, FreeDoes n
  | 0 => fun w lo hi s l hl => absurd hl (Nat.not_lt_zero _)
  | n + 1 => fun w lo hi s l hl h2 h3 => free_step n (free n) w lo hi s l (Nat.le_of_lt_succ hl) h2 h3
set_option maxHeartbeats 4000000 in
theorem specF {w : World} {lo hi : Nat} {ta tb tc : Value} {xa xb : List Int} {l : List St} (sa : IntsR w lo hi ta xa) (sb : IntsR w lo hi tb xb) (s : StsR w lo hi tc l) (h1 : hi ≤ w.heap.size) (hm : St.sizes l ≤ 1048576) :
    Calls Try.prog 33 #[.agg #[ta, tb, tc]] w fun e w' => e = .returned (.bool (freeB xa xb l)) ∧ New w w' := by
  obtain ⟨a1, d1, rfl, m1⟩ := sa.len
  obtain ⟨a2, d2, rfl, m2⟩ := sb.len
  obtain ⟨a3, d3, rfl, m3⟩ := s.len
  go_enter Try.func33, Try.ntmps33
  go_wp2_with fail
  have N0 : New w (w.alloc (.cells #[.slice a1 xa.length d1, .slice a2 xb.length d2, .slice a3 l.length d3] 33)) := ((Kp.refl _ _).alloc _)
  have bA_0 : (w.alloc (.cells #[.slice a1 xa.length d1, .slice a2 xb.length d2, .slice a3 l.length d3] 33)).heap[w.heap.size]? = some (.cells #[.slice a1 xa.length d1, .slice a2 xb.length d2, .slice a3 l.length d3] 33) := alloc_heap _ _
  have z0 : w.heap.size < (w.alloc (.cells #[.slice a1 xa.length d1, .slice a2 xb.length d2, .slice a3 l.length d3] 33)).heap.size := by simp
  generalize (w.alloc (.cells #[.slice a1 xa.length d1, .slice a2 xb.length d2, .slice a3 l.length d3] 33)) = w0 at *
  obtain ⟨bA_0_c0, bA_0_c1, bA_0_c2⟩ := cells3 bA_0
  go_wp2_with fail
  refine (PgmV.specP (sa.new h1 N0) (sb.new h1 N0) (s.new h1 N0) (by omega) hm).mono ?_
  rintro e w1 ⟨rfl, hn1⟩
  have z1 := hn1.size
  have N1 : New w w1 := N0.trans hn1
  have bA_1 := heap_new hn1 bA_0
  clear bA_0_c0 bA_0_c1 bA_0_c2
  clear bA_0 hn1
  cases b1 : progB xa xb l
  · have D := Lib.hid (show (freeB xa xb l) = false by rw [freeB, b1]; rfl)
    clear b1
    go_wp2
    go_ret
    exact ⟨retB D.out.symm, N1⟩
  have Hb1 := Lib.hid b1
  clear b1
  obtain ⟨bA_1_c0, bA_1_c1, bA_1_c2⟩ := cells3 bA_1
  go_wp2_with fail
  refine (free _ w1 lo hi _ l (Nat.lt_succ_self _) (s.new h1 N1) (by omega)).mono ?_
  rintro e w' ⟨rfl, hn⟩
  have NZ := N1.trans hn
  have D := Lib.hid (show freeB xa xb l = freeL l by rw [freeB, Hb1.out]; rfl)
  clear Hb1
  go_wp2
  go_ret
  exact ⟨retB D.out.symm, NZ⟩
end Go.Proofs.Ytbnhhmgdkiomoaa.CountC
