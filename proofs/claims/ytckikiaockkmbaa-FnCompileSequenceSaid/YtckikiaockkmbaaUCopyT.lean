/- Copies of expressions, of statements, of programs (spec). Condition: at most 2^20 nodes. -/
import Derived.Test.YtckikiaockkmbaaUDrawB
import Derived.Test.YtckikiaockkmbaaUP1
import Derived.Test.YtckikiaockkmbaaUP4
import Derived.Test.YtckikiaockkmbaaUP2
namespace Go.Proofs.Ytckikiaockkmbaa.CopyT
open Go.RowKit Kit Draw DrawX DrawB
set_option linter.unusedVariables false
def GotX (w : World) (k v : Int) (ks : List Ex) (e : Ending) (w' : World) : Prop := ∃ (a : Option Addr) (d : Nat), e = .returned (.agg #[.int .i64 k, .int .i64 v, .slice a ks.length d]) ∧ New w w' ∧ KidsR w' w.heap.size w'.heap.size (.slice a ks.length d) ks
/-- where the loop stands -/
def Cx (w : World) (bo : Nat) (k v : Int) (s : Value) (ks : List Ex) (j : Nat) (wr : World) : Prop := ∃ (a : Option Addr) (dd : Nat), New w wr ∧ wr.heap[w.heap.size]? = some (.cells #[.int .i64 k, .int .i64 v, s] 58 (0, 0)) ∧ wr.heap[w.heap.size + 1]? = some (.cells #[.int .i64 0, .int .i64 0, .slice none 0 0] 58 (0, 0)) ∧
  wr.heap[bo]? = some (.cells #[.int .i64 k, .int .i64 v, .slice a j dd] 58 (0, 0)) ∧ ExsG wr (bo + 1) 58 (.slice a j dd) (ks.take j) ∧ w.heap.size + 1 < bo
set_option maxHeartbeats 8000000 in
set_option maxRecDepth 100000 in
theorem copyX : ∀ (n : Nat) (w : World) (lo hi : Nat) (k v : Int) (s : Value) (ks : List Ex), Ex.sizes ks < n → Ex.sizes ks ≤ 1048576 → KidsR w lo hi s ks → hi ≤ w.heap.size →
    Calls Try.prog 162 #[.agg #[.int .i64 k, .int .i64 v, s]] w (GotX w k v ks) := by
  intro n
  induction n with
  | zero => intro w lo hi k v s ks h; exact absurd h (Nat.not_lt_zero _)
  | succ n ih =>
    intro w lo hi k v s ks hn hm hs h1
    obtain ⟨ap, cs, rfl, ml⟩ := hs.len
    have hsh := Lib.hid hs
    have hih := Lib.hid ih
    have hlen := Ex.length_sizes ks
    have N0 : New w (((w.alloc (.cells #[.int .i64 k, .int .i64 v, .slice ap ks.length cs] 58)).alloc (.cells #[.int .i64 0, .int .i64 0, .slice none 0 0] 58)).alloc (.cells #[.int .i64 k, .int .i64 v, .slice none 0 0] 58)) := (((Kp.refl _ _).alloc _).alloc _).alloc _
    have hC : Cx w (w.heap.size + 1 + 1) k v (.slice ap ks.length cs) ks 0 (((w.alloc (.cells #[.int .i64 k, .int .i64 v, .slice ap ks.length cs] 58)).alloc (.cells #[.int .i64 0, .int .i64 0, .slice none 0 0] 58)).alloc (.cells #[.int .i64 k, .int .i64 v, .slice none 0 0] 58)) :=
      ⟨none, 0, N0, heap_old (heap_old (alloc_heap _ _)), heap_old (heap_at (by simp)), heap_at (by simp), RowG.nil _ _ _, by omega⟩
    have hCh := Lib.hid hC
    clear hs ih N0 hC
    go_enter Try.func162, Try.ntmps162
    go_wp2_with fail
    generalize ((w.alloc (.cells #[.int .i64 k, .int .i64 v, .slice ap ks.length cs] 58)).alloc (.cells #[.int .i64 0, .int .i64 0, .slice none 0 0] 58)).alloc (.cells #[.int .i64 k, .int .i64 v, .slice none 0 0] 58) = w0 at *
    generalize hbo : w.heap.size + 1 + 1 = bo at *
    go_loopw [4] (fun i wr => ∃ j : Nat, j ≤ ks.length ∧ i = .int .i64 j ∧ Cx w bo k v (.slice ap ks.length cs) ks j wr) (fun i _ => ks.length - (intOf i).toNat)
    case atStart => exact ⟨0, Nat.zero_le _, rfl, hCh.out⟩
    case round =>
      obtain ⟨j, hj, rfl, a, dd, N, bE, bR, bO, hG, hbo⟩ := hrel
      clear hCh
      have hGh := Lib.hid hG
      have zN := N.size
      have olt := heap_lt bO
      clear hG
      by_cases hlt : j < ks.length
      · have hsz := Ex.sizes_get ks j hlt
        have hsk := Ex.size_kids ks[j]
        obtain ⟨b, o, sx, e, hb1, hb2, c0, c1, c2, hx⟩ := (hsh.out.new h1 N).at j hlt
        cases e
        obtain ⟨a6, d6, rfl, _⟩ := hx.len
        have htk := Lib.hid (show ks.take j ++ [ks[j]] = ks.take (j + 1) from (List.take_succ_eq_append_getElem hlt).symm)
        have hlt2 : (ks.take j).length = j := by simp; omega
        have hlt3 : (ks.take (j + 1)).length = j + 1 := by simp; omega
        have hxs : Ex.sizes ks[j].kids < n := by omega
        have hxm : Ex.sizes ks[j].kids ≤ 1048576 := by omega
        have hsx := Lib.hid hx
        clear hx hsz hsk
        generalize ks[j] = x at *
        have hlt2h := Lib.hid hlt2
        have hlt3h := Lib.hid hlt3
        clear hlt2 hlt3
        have t0 := cell_of_heap bO 2
        have t1 := cell_of_heap bE 2
        have kd := (Kp.refl (fun _ => False) wr).drew
        have zd := kd.size
        have hiw : hi ≤ wr.heap.size := by omega
        have bEd := heap_new kd bE
        have bRd := heap_new kd bR
        have bOd := heap_new kd bO
        have Nd := N.trans kd
        have hGd := Lib.hid (hGh.out.new kd)
        go_wp2_with fail
        have d0 := (kd.cell (cell_lt t0) (fun f => f) _).trans t0
        have d1 := (kd.cell (cell_lt t1) (fun f => f) _).trans t1
        have d2 := (kd.cell (cell_lt c0) (fun f => f) _).trans c0
        have d3 := (kd.cell (cell_lt c1) (fun f => f) _).trans c1
        have d4 := (kd.cell (cell_lt c2) (fun f => f) _).trans c2
        have hlt2 := hlt2h.out
        have hlt3 := hlt3h.out
        clear hlt2h hlt3h bE bR bO hGh
        refine wp_region_tail (k := 11) (S := fun w' => w'.cell? ⟨bo, 2, none⟩ = some (.slice a j dd) ∧ w'.cell? ⟨w.heap.size, 2, none⟩ = some (.slice (some ⟨b, o, none⟩) ks.length cs) ∧ w'.cell? ⟨b, o + j * 3, none⟩ = some (.int .i64 x.kind) ∧ w'.cell? ⟨b, o + j * 3 + 1, none⟩ = some (.int .i64 x.val) ∧ w'.cell? ⟨b, o + j * 3 + 2, none⟩ = some (.slice a6 x.kids.length d6)) (by kernel_rfl) ?_ (fun hHeld => ?_)
        · exact ⟨d0, d1, d2, d3, d4⟩
        refine AnyK.tw 0 rfl ?_
        try simp only [AP]
        refine AnyK.tk 1 rfl ?_
        try simp only [AP]
        refine AnyK.tw 2 rfl ?_
        try simp only [AP]
        refine AnyK.tk 3 rfl ?_
        try simp only [AP]
        refine AnyK.tw 4 rfl ?_
        try simp only [AP]
        refine AnyK.tw 5 rfl ?_
        try simp only [AP]
        refine AnyK.tk 6 rfl ?_
        try simp only [AP]
        refine AnyK.step (i := 7) (by kernel_rfl) rfl (fun K hK => ?_)
        go_simp
        refine (hih.out wr.drew lo hi x.kind x.val _ x.kids hxs hxm (hsx.out.new hiw kd) (by omega)).mono ?_
        rintro e w1 ⟨a7, d7, rfl, n1, hks⟩
        have z1 := n1.size
        have hG1 := Lib.hid (hGd.out.new n1)
        have hGl := hGd.out.lt
        have hksh := Lib.hid hks
        clear hks
        have f0 := (n1.cell (cell_lt d0) (fun f => f) _).trans d0
        have f1 := (n1.cell (cell_lt d1) (fun f => f) _).trans d1
        have f2 := (n1.cell (cell_lt d2) (fun f => f) _).trans d2
        have f3 := (n1.cell (cell_lt d3) (fun f => f) _).trans d3
        have f4 := (n1.cell (cell_lt d4) (fun f => f) _).trans d4
        refine hK.out _ _ ?_ (fun hHeld2 => ?_)
        · exact ⟨f0, f1, f2, f3, f4⟩
        clear hK K hHeld
        have hHeld := hHeld2
        clear hHeld2
        try simp only [AP]
        refine AnyK.step (i := 8) (by kernel_rfl) rfl (fun K hK => ?_)
        go_simp
        have kn : New w1 (w1.alloc (.cells #[.int .i64 x.kind, .int .i64 x.val, .slice a7 x.kids.length d7] 58)) := (Kp.refl _ _).alloc _
        have g0 := (kn.cell (cell_lt f0) (fun f => f) _).trans f0
        have g1 := (kn.cell (cell_lt f1) (fun f => f) _).trans f1
        have g2 := (kn.cell (cell_lt f2) (fun f => f) _).trans f2
        have g3 := (kn.cell (cell_lt f3) (fun f => f) _).trans f3
        have g4 := (kn.cell (cell_lt f4) (fun f => f) _).trans f4
        refine hK.out _ _ ?_ (fun hHeld2 => ?_)
        · exact ⟨g0, g1, g2, g3, g4⟩
        clear hK K hHeld
        have hHeld := hHeld2
        clear hHeld2
        try simp only [AP]
        refine AnyK.step (i := 9) (by kernel_rfl) rfl (fun K hK => ?_)
        have his : RX.Is (w1.alloc (.cells #[.int .i64 x.kind, .int .i64 x.val, .slice a7 x.kids.length d7] 58)) wr.drew.heap.size w1.heap.size ⟨x.kind, x.val, .slice a7 x.kids.length d7⟩ x := ⟨rfl, rfl, hksh.out.new (Nat.le_refl _) kn⟩
        have hish := Lib.hid his
        clear his
        refine step_grow rfl (.tmp 18) (.tmp 25) 56 rfl (bo + 1) 58 _ 40 Try.underlying56 infoX rfl (by decide) (.slice a j dd) (ks.take j) rfl (hG1.out.new kn) w1.heap.size 1 ⟨x.kind, x.val, .slice a7 x.kids.length d7⟩ x rfl (Nat.le_refl _) (by decide) (newsX _ _ _ _ _) hish.out.one wr.drew.heap.size w1.heap.size (by omega) (size_alloc_le (Nat.le_refl _) _) (fun b hb => .inl (hGl b hb).2) hish.out (by rw [hlt2]; omega) (by rw [hlt2]; omega) (size_alloc_le (by omega) _) ?_
        intro v2 w2 hG2 hk2 ha2
        rw [htk.out] at hG2
        obtain ⟨a8, d8, e8, _⟩ := hG2.len
        rw [hlt3] at e8
        subst e8
        have hG2h := Lib.hid hG2
        have z2 := hk2.size
        have zn : w1.heap.size ≤ (w1.alloc (.cells #[.int .i64 x.kind, .int .i64 x.val, .slice a7 x.kids.length d7] 58)).heap.size := size_alloc_le (Nat.le_refl _) _
        have bE2 := hk2.bk (kn.bk (n1.bk bEd)) (fun e => by have := hGl _ e; omega)
        have bR2 := hk2.bk (kn.bk (n1.bk bRd)) (fun e => by have := hGl _ e; omega)
        have bO2 := hk2.bk (kn.bk (n1.bk bOd)) (fun e => by have := hGl _ e; omega)
        have N2 : New w w2 := New.on ((Nd.trans n1).trans kn) hk2 (fun i e => by have := hGl _ e; omega)
        clear hG2 ha2 bEd bRd bOd
        have u0 := (hk2.cell (cell_lt g0) (fun e => by have := hGl _ e; omega) _).trans g0
        have u1 := (hk2.cell (cell_lt g1) (fun e => by have := hGl _ e; omega) _).trans g1
        have u2 := (hk2.cell (cell_lt g2) (fun e => by have := hGl _ e; omega) _).trans g2
        have u3 := (hk2.cell (cell_lt g3) (fun e => by have := hGl _ e; omega) _).trans g3
        have u4 := (hk2.cell (cell_lt g4) (fun e => by have := hGl _ e; omega) _).trans g4
        refine hK.out _ _ ?_ (fun hHeld2 => ?_)
        · exact ⟨u0, u1, u2, u3, u4⟩
        clear hK K hHeld
        have hHeld := hHeld2
        clear hHeld2
        try simp only [AP]
        refine AnyK.tw 10 rfl ?_
        try simp only [AP]
        refine AnyK.last (by kernel_rfl) ?_
        simp only [List.drop_succ_cons, List.drop_zero]
        clear hHeld
        have uf := frozen_of_heap bO2
        have bl2 := heap_lt bO2
        have kz : One bo w2 (w2.setCell ⟨bo, 2, none⟩ (.slice a8 (j + 1) d8)) := (Kp.refl (fun k => k = bo) _).setCell (.inl rfl) _
        have hL : Cx w bo k v (.slice (some ⟨b, o, none⟩) ks.length cs) ks (j + 1) (w2.setCell ⟨bo, 2, none⟩ (.slice a8 (j + 1) d8)) := ⟨a8, d8, N2.one kz (by omega), heap_set bE2 (by omega) _, heap_set bR2 (by omega) _, setCell_heap (o := 2) bO2 _, hG2h.out.kp kz (fun b e => by omega), hbo⟩
        have hLh := Lib.hid hL
        clear hL kz N2 hG2h bE2 bR2 bO2 t0 t1 d0 d1 d2 d3 d4 f0 f1 f2 f3 f4 g0 g1 g2 g3 g4 u1 u2 u3 u4
        go_wp2
        go_roundw
        case rel => exact ⟨j + 1, by omega, by go_num, hLh.out⟩
        case measure => simp [intOf]; omega
      · obtain rfl : j = ks.length := by omega
        have hkids := Lib.hid (show KidsR wr (bo + 1) wr.heap.size (.slice a ks.length dd) ks by have h := hGh.out.kids; rwa [List.take_of_length_le (Nat.le_refl _)] at h)
        obtain ⟨t0, t1, t2⟩ := cells3 bO
        have t3 := cell_of_heap bE 2
        have rf := frozen_of_heap bR
        obtain ⟨r0, r1, r2⟩ := cells3 bR
        have rl := heap_lt bR
        clear hlt hGh
        go_wp2
        have hkz := setMany_kp (w.heap.size + 1) [.int .i64 k, .int .i64 v, .slice a ks.length dd] wr 0
        have zs := setMany_size (w.heap.size + 1) [.int .i64 k, .int .i64 v, .slice a ks.length dd] wr 0
        have hR := setMany_row [.int .i64 k, .int .i64 v, .slice a ks.length dd] bR rfl
        have hKz := (hkids.out.kp hkz (by omega) (fun k e => .inl (by omega))).mono (lo' := w.heap.size) (hi' := (setMany wr (w.heap.size + 1) 0 [.int .i64 k, .int .i64 v, .slice a ks.length dd]).heap.size) (by omega) (by omega)
        exact bodyPost_ret (results_cell_row rfl _ _ _ _ _ _ _ rfl hR Try.underlying58 rfl (by kernel_rfl)) rfl ⟨_, _, rfl, N.one hkz (by omega), hKz⟩
def GotL (w : World) (l : List St) (e : Ending) (w' : World) : Prop := ∃ (a : Option Addr) (d : Nat), e = .returned (.slice a l.length d) ∧ New w w' ∧ StsG w' w.heap.size 74 (.slice a l.length d) l
set_option maxHeartbeats 8000000 in
set_option maxRecDepth 100000 in
theorem copyS : ∀ (n : Nat) (w : World) (lo hi : Nat) (s : Value) (l : List St), St.sizes l < n → St.sizes l ≤ 1048576 → StsR w lo hi s l → hi ≤ w.heap.size →
    Calls Try.prog 150 #[s] w (GotL w l) := by
  intro n
  induction n with
  | zero => intro w lo hi s l h; exact absurd h (Nat.not_lt_zero _)
  | succ n ih =>
    intro w lo hi s l hn hm hs h1
    obtain ⟨ap, cs, rfl, ml⟩ := hs.len
    have hsh := Lib.hid hs
    have hih := Lib.hid ih
    have hlen := St.length_sizes l
    have N0 : New w (w.alloc (.cells #[] 74)) := (Kp.refl _ _).alloc _
    have hG0 : StsG (w.alloc (.cells #[] 74)) w.heap.size 74 (.slice (some ⟨w.heap.size, 0, none⟩) 0 0) (l.take 0) := RowG.empty w 74 (Nat.le_refl _)
    have hG0h := Lib.hid hG0
    clear hs ih hG0
    go_enter Try.func150, Try.ntmps150
    go_wp2_with fail
    generalize w.alloc (.cells #[] 74) = w0 at *
    go_loopw [3, 4] (fun v i wr => ∃ j : Nat, j ≤ l.length ∧ i = .int .i64 j ∧ ∃ (a : Option Addr) (dd : Nat), v = .slice a j dd ∧ New w wr ∧ StsG wr w.heap.size 74 (.slice a j dd) (l.take j)) (fun _ i _ => l.length - (intOf i).toNat)
    case atStart => exact ⟨0, Nat.zero_le _, rfl, _, _, rfl, N0, hG0h.out⟩
    case round =>
      obtain ⟨j, hj, rfl, a, dd, rfl, N, hG⟩ := hrel
      clear hG0h N0
      have hGh := Lib.hid hG
      have hGlh := Lib.hid hG.lt
      have zN := N.size
      clear hG
      by_cases hlt : j < l.length
      · have hsz := St.parts_get l j hlt
        obtain ⟨b, o, vi, vv, vb, ve, e, A⟩ := (hsh.out.new h1 N).elem j hlt
        cases e
        obtain ⟨a4, c4, rfl, _⟩ := A.ri.len
        obtain ⟨a7, c7, rfl, _⟩ := A.rv.len
        obtain ⟨a9, c9, rfl, _⟩ := A.rb.len
        obtain ⟨a10, c10, rfl, _⟩ := A.re.len
        have htk := Lib.hid (show l.take j ++ [l[j]] = l.take (j + 1) from (List.take_succ_eq_append_getElem hlt).symm)
        have hlt2h := Lib.hid (show (l.take j).length = j by simp; omega)
        have hlt3h := Lib.hid (show (l.take (j + 1)).length = j + 1 by simp; omega)
        have hnB : St.sizes l[j].body < n := by omega
        have hmB : St.sizes l[j].body ≤ 1048576 := by omega
        have hnE : St.sizes l[j].els < n := by omega
        have hmE : St.sizes l[j].els ≤ 1048576 := by omega
        have hmI : Ex.sizes l[j].index.kids ≤ 1048576 := by omega
        have hmV : Ex.sizes l[j].value.kids ≤ 1048576 := by omega
        have r4 := Lib.hid A.ri
        have r7 := Lib.hid A.rv
        have r9 := Lib.hid A.rb
        have r10 := Lib.hid A.re
        obtain ⟨hblo, hbhi, c0, c1, c2, c3, c4q, c5, c6, c7q, c8, c9q, c10q, _, _, _, _⟩ := A
        have hiw : hi ≤ wr.heap.size := by omega
        have hbl : b < wr.heap.size := by omega
        clear hsz
        generalize l[j] = x at *
        have N0 : New wr wr := Kp.refl _ _
        go_wp2_with fail
        clear c0 c1 c2 c3 c4q c5 c6 c7q c8 c9q c10q
        have hn1 : New wr (wr.alloc (.cells #[.int .i64 x.kind, .int .i64 x.target, .int .i64 x.index.kind, .int .i64 x.index.val, .slice a4 x.index.kids.length c4, .int .i64 x.value.kind, .int .i64 x.value.val, .slice a7 x.value.kids.length c7, .int .i64 x.count, .slice a9 x.body.length c9, .slice a10 x.els.length c10] 74)) := (Kp.refl _ _).alloc _
        have z1 : wr.heap.size < (wr.alloc (.cells #[.int .i64 x.kind, .int .i64 x.target, .int .i64 x.index.kind, .int .i64 x.index.val, .slice a4 x.index.kids.length c4, .int .i64 x.value.kind, .int .i64 x.value.val, .slice a7 x.value.kids.length c7, .int .i64 x.count, .slice a9 x.body.length c9, .slice a10 x.els.length c10] 74)).heap.size := by simp
        have N1 : New wr (wr.alloc (.cells #[.int .i64 x.kind, .int .i64 x.target, .int .i64 x.index.kind, .int .i64 x.index.val, .slice a4 x.index.kids.length c4, .int .i64 x.value.kind, .int .i64 x.value.val, .slice a7 x.value.kids.length c7, .int .i64 x.count, .slice a9 x.body.length c9, .slice a10 x.els.length c10] 74)) := N0.trans hn1
        have bS_1 : (wr.alloc (.cells #[.int .i64 x.kind, .int .i64 x.target, .int .i64 x.index.kind, .int .i64 x.index.val, .slice a4 x.index.kids.length c4, .int .i64 x.value.kind, .int .i64 x.value.val, .slice a7 x.value.kids.length c7, .int .i64 x.count, .slice a9 x.body.length c9, .slice a10 x.els.length c10] 74)).heap[wr.heap.size]? = some (.cells #[.int .i64 x.kind, .int .i64 x.target, .int .i64 x.index.kind, .int .i64 x.index.val, .slice a4 x.index.kids.length c4, .int .i64 x.value.kind, .int .i64 x.value.val, .slice a7 x.value.kids.length c7, .int .i64 x.count, .slice a9 x.body.length c9, .slice a10 x.els.length c10] 74) := alloc_heap _ _
        clear hn1
        generalize (wr.alloc (.cells #[.int .i64 x.kind, .int .i64 x.target, .int .i64 x.index.kind, .int .i64 x.index.val, .slice a4 x.index.kids.length c4, .int .i64 x.value.kind, .int .i64 x.value.val, .slice a7 x.value.kids.length c7, .int .i64 x.count, .slice a9 x.body.length c9, .slice a10 x.els.length c10] 74)) = w1 at *
        obtain ⟨bS_1_c0, bS_1_c1, bS_1_c2, bS_1_c3, bS_1_c4, bS_1_c5, bS_1_c6, bS_1_c7⟩ := cells8 bS_1
        have bS_1_c8 := cell_of_heap bS_1 8
        have bS_1_c9 := cell_of_heap bS_1 9
        have bS_1_c10 := cell_of_heap bS_1 10
        have bS_1_f := frozen_of_heap bS_1
        refine (copyX _ w1 lo hi x.index.kind x.index.val _ x.index.kids (Nat.lt_succ_self _) hmI (r4.out.new hiw N1) (by omega)).mono ?_
        rintro e w2 ⟨aI, dI, rfl, hn2, oI⟩
        have z2 := hn2.size
        have N2 : New wr w2 := N1.trans hn2
        have bS_2 := heap_new hn2 bS_1
        clear bS_1_c0 bS_1_c1 bS_1_c2 bS_1_c3 bS_1_c4 bS_1_c5 bS_1_c6 bS_1_c7 bS_1_c8 bS_1_c9 bS_1_c10 bS_1_f
        clear bS_1 hn2
        have oI_2 := oI
        clear oI
        obtain ⟨bS_2_c0, bS_2_c1, bS_2_c2, bS_2_c3, bS_2_c4, bS_2_c5, bS_2_c6, bS_2_c7⟩ := cells8 bS_2
        have bS_2_c8 := cell_of_heap bS_2 8
        have bS_2_c9 := cell_of_heap bS_2 9
        have bS_2_c10 := cell_of_heap bS_2 10
        have bS_2_f := frozen_of_heap bS_2
        have lS := heap_lt bS_2
        go_upto_region 7 with fail
        have hk3 : One (wr.heap.size) w2 (((w2.setCell ⟨wr.heap.size, 2, none⟩ (.int .i64 x.index.kind)).setCell ⟨wr.heap.size, 3, none⟩ (.int .i64 x.index.val)).setCell ⟨wr.heap.size, 4, none⟩ (.slice aI x.index.kids.length dI)) := (Kp.setCell (Kp.setCell (Kp.setCell (Kp.refl (fun k => k = wr.heap.size) _) (.inl rfl) _) (.inl rfl) _) (.inl rfl) _)
        have z3 := hk3.size
        have N3 : New wr (((w2.setCell ⟨wr.heap.size, 2, none⟩ (.int .i64 x.index.kind)).setCell ⟨wr.heap.size, 3, none⟩ (.int .i64 x.index.val)).setCell ⟨wr.heap.size, 4, none⟩ (.slice aI x.index.kids.length dI)) := New.one N2 hk3 (by omega)
        have bS_3 : (((w2.setCell ⟨wr.heap.size, 2, none⟩ (.int .i64 x.index.kind)).setCell ⟨wr.heap.size, 3, none⟩ (.int .i64 x.index.val)).setCell ⟨wr.heap.size, 4, none⟩ (.slice aI x.index.kids.length dI)).heap[wr.heap.size]? = some (.cells #[.int .i64 x.kind, .int .i64 x.target, .int .i64 x.index.kind, .int .i64 x.index.val, .slice aI x.index.kids.length dI, .int .i64 x.value.kind, .int .i64 x.value.val, .slice a7 x.value.kids.length c7, .int .i64 x.count, .slice a9 x.body.length c9, .slice a10 x.els.length c10] 74) := (setCell_heap (setCell_heap (setCell_heap bS_2 _) _) _)
        have oI_3 := oI_2.kp hk3 (by omega) (fun k e => .inl (by omega))
        clear bS_2_c0 bS_2_c1 bS_2_c2 bS_2_c3 bS_2_c4 bS_2_c5 bS_2_c6 bS_2_c7 bS_2_c8 bS_2_c9 bS_2_c10 bS_2_f lS
        clear bS_2 oI_2 hk3
        generalize (((w2.setCell ⟨wr.heap.size, 2, none⟩ (.int .i64 x.index.kind)).setCell ⟨wr.heap.size, 3, none⟩ (.int .i64 x.index.val)).setCell ⟨wr.heap.size, 4, none⟩ (.slice aI x.index.kids.length dI)) = w3 at *
        obtain ⟨bS_3_c0, bS_3_c1, bS_3_c2, bS_3_c3, bS_3_c4, bS_3_c5, bS_3_c6, bS_3_c7⟩ := cells8 bS_3
        have bS_3_c8 := cell_of_heap bS_3 8
        have bS_3_c9 := cell_of_heap bS_3 9
        have bS_3_c10 := cell_of_heap bS_3 10
        have bS_3_f := frozen_of_heap bS_3
        go_wp2_with fail
        refine (copyX _ w3 lo hi x.value.kind x.value.val _ x.value.kids (Nat.lt_succ_self _) hmV (r7.out.new hiw N3) (by omega)).mono ?_
        rintro e w4 ⟨aV, dV, rfl, hn4, oV⟩
        have z4 := hn4.size
        have N4 : New wr w4 := N3.trans hn4
        have bS_4 := heap_new hn4 bS_3
        have oI_4 := oI_3.new (by omega) hn4
        clear bS_3_c0 bS_3_c1 bS_3_c2 bS_3_c3 bS_3_c4 bS_3_c5 bS_3_c6 bS_3_c7 bS_3_c8 bS_3_c9 bS_3_c10 bS_3_f
        clear bS_3 oI_3 hn4
        have oV_4 := oV
        clear oV
        obtain ⟨bS_4_c0, bS_4_c1, bS_4_c2, bS_4_c3, bS_4_c4, bS_4_c5, bS_4_c6, bS_4_c7⟩ := cells8 bS_4
        have bS_4_c8 := cell_of_heap bS_4 8
        have bS_4_c9 := cell_of_heap bS_4 9
        have bS_4_c10 := cell_of_heap bS_4 10
        have bS_4_f := frozen_of_heap bS_4
        have lS := heap_lt bS_4
        go_upto_region 8 with fail
        have hk5 : One (wr.heap.size) w4 (((w4.setCell ⟨wr.heap.size, 5, none⟩ (.int .i64 x.value.kind)).setCell ⟨wr.heap.size, 6, none⟩ (.int .i64 x.value.val)).setCell ⟨wr.heap.size, 7, none⟩ (.slice aV x.value.kids.length dV)) := (Kp.setCell (Kp.setCell (Kp.setCell (Kp.refl (fun k => k = wr.heap.size) _) (.inl rfl) _) (.inl rfl) _) (.inl rfl) _)
        have z5 := hk5.size
        have N5 : New wr (((w4.setCell ⟨wr.heap.size, 5, none⟩ (.int .i64 x.value.kind)).setCell ⟨wr.heap.size, 6, none⟩ (.int .i64 x.value.val)).setCell ⟨wr.heap.size, 7, none⟩ (.slice aV x.value.kids.length dV)) := New.one N4 hk5 (by omega)
        have bS_5 : (((w4.setCell ⟨wr.heap.size, 5, none⟩ (.int .i64 x.value.kind)).setCell ⟨wr.heap.size, 6, none⟩ (.int .i64 x.value.val)).setCell ⟨wr.heap.size, 7, none⟩ (.slice aV x.value.kids.length dV)).heap[wr.heap.size]? = some (.cells #[.int .i64 x.kind, .int .i64 x.target, .int .i64 x.index.kind, .int .i64 x.index.val, .slice aI x.index.kids.length dI, .int .i64 x.value.kind, .int .i64 x.value.val, .slice aV x.value.kids.length dV, .int .i64 x.count, .slice a9 x.body.length c9, .slice a10 x.els.length c10] 74) := (setCell_heap (setCell_heap (setCell_heap bS_4 _) _) _)
        have oI_5 := oI_4.kp hk5 (by omega) (fun k e => .inl (by omega))
        have oV_5 := oV_4.kp hk5 (by omega) (fun k e => .inl (by omega))
        clear bS_4_c0 bS_4_c1 bS_4_c2 bS_4_c3 bS_4_c4 bS_4_c5 bS_4_c6 bS_4_c7 bS_4_c8 bS_4_c9 bS_4_c10 bS_4_f lS
        clear bS_4 oI_4 oV_4 hk5
        generalize (((w4.setCell ⟨wr.heap.size, 5, none⟩ (.int .i64 x.value.kind)).setCell ⟨wr.heap.size, 6, none⟩ (.int .i64 x.value.val)).setCell ⟨wr.heap.size, 7, none⟩ (.slice aV x.value.kids.length dV)) = w5 at *
        obtain ⟨bS_5_c0, bS_5_c1, bS_5_c2, bS_5_c3, bS_5_c4, bS_5_c5, bS_5_c6, bS_5_c7⟩ := cells8 bS_5
        have bS_5_c8 := cell_of_heap bS_5 8
        have bS_5_c9 := cell_of_heap bS_5 9
        have bS_5_c10 := cell_of_heap bS_5 10
        have bS_5_f := frozen_of_heap bS_5
        go_wp2_with fail
        refine (hih.out w5 lo hi _ x.body hnB hmB (r9.out.new hiw N5) (by omega)).mono ?_
        rintro e w6 ⟨aB, dB, rfl, hn6, oB⟩
        have z6 := hn6.size
        have N6 : New wr w6 := N5.trans hn6
        have bS_6 := heap_new hn6 bS_5
        have oI_6 := oI_5.new (by omega) hn6
        have oV_6 := oV_5.new (by omega) hn6
        clear bS_5_c0 bS_5_c1 bS_5_c2 bS_5_c3 bS_5_c4 bS_5_c5 bS_5_c6 bS_5_c7 bS_5_c8 bS_5_c9 bS_5_c10 bS_5_f
        clear bS_5 oI_5 oV_5 hn6
        have oBs := oB.sts
        clear oB
        have oB_6 := oBs
        clear oBs
        obtain ⟨bS_6_c0, bS_6_c1, bS_6_c2, bS_6_c3, bS_6_c4, bS_6_c5, bS_6_c6, bS_6_c7⟩ := cells8 bS_6
        have bS_6_c8 := cell_of_heap bS_6 8
        have bS_6_c9 := cell_of_heap bS_6 9
        have bS_6_c10 := cell_of_heap bS_6 10
        have bS_6_f := frozen_of_heap bS_6
        have lS := heap_lt bS_6
        go_upto_region 9 with fail
        have hk7 : One (wr.heap.size) w6 (w6.setCell ⟨wr.heap.size, 9, none⟩ (.slice aB x.body.length dB)) := (Kp.setCell (Kp.refl (fun k => k = wr.heap.size) _) (.inl rfl) _)
        have z7 := hk7.size
        have N7 : New wr (w6.setCell ⟨wr.heap.size, 9, none⟩ (.slice aB x.body.length dB)) := New.one N6 hk7 (by omega)
        have bS_7 : (w6.setCell ⟨wr.heap.size, 9, none⟩ (.slice aB x.body.length dB)).heap[wr.heap.size]? = some (.cells #[.int .i64 x.kind, .int .i64 x.target, .int .i64 x.index.kind, .int .i64 x.index.val, .slice aI x.index.kids.length dI, .int .i64 x.value.kind, .int .i64 x.value.val, .slice aV x.value.kids.length dV, .int .i64 x.count, .slice aB x.body.length dB, .slice a10 x.els.length c10] 74) := (setCell_heap bS_6 _)
        have oI_7 := oI_6.kp hk7 (by omega) (fun k e => .inl (by omega))
        have oV_7 := oV_6.kp hk7 (by omega) (fun k e => .inl (by omega))
        have oB_7 := oB_6.kp hk7 (by omega) (fun k e => .inl (by omega))
        clear bS_6_c0 bS_6_c1 bS_6_c2 bS_6_c3 bS_6_c4 bS_6_c5 bS_6_c6 bS_6_c7 bS_6_c8 bS_6_c9 bS_6_c10 bS_6_f lS
        clear bS_6 oI_6 oV_6 oB_6 hk7
        generalize (w6.setCell ⟨wr.heap.size, 9, none⟩ (.slice aB x.body.length dB)) = w7 at *
        obtain ⟨bS_7_c0, bS_7_c1, bS_7_c2, bS_7_c3, bS_7_c4, bS_7_c5, bS_7_c6, bS_7_c7⟩ := cells8 bS_7
        have bS_7_c8 := cell_of_heap bS_7 8
        have bS_7_c9 := cell_of_heap bS_7 9
        have bS_7_c10 := cell_of_heap bS_7 10
        have bS_7_f := frozen_of_heap bS_7
        go_wp2_with fail
        refine (hih.out w7 lo hi _ x.els hnE hmE (r10.out.new hiw N7) (by omega)).mono ?_
        rintro e w8 ⟨aE, dE, rfl, hn8, oE⟩
        have z8 := hn8.size
        have N8 : New wr w8 := N7.trans hn8
        have bS_8 := heap_new hn8 bS_7
        have oI_8 := oI_7.new (by omega) hn8
        have oV_8 := oV_7.new (by omega) hn8
        have oB_8 := oB_7.new (by omega) hn8
        clear bS_7_c0 bS_7_c1 bS_7_c2 bS_7_c3 bS_7_c4 bS_7_c5 bS_7_c6 bS_7_c7 bS_7_c8 bS_7_c9 bS_7_c10 bS_7_f
        clear bS_7 oI_7 oV_7 oB_7 hn8
        have oEs := oE.sts
        clear oE
        have oE_8 := oEs
        clear oEs
        obtain ⟨bS_8_c0, bS_8_c1, bS_8_c2, bS_8_c3, bS_8_c4, bS_8_c5, bS_8_c6, bS_8_c7⟩ := cells8 bS_8
        have bS_8_c8 := cell_of_heap bS_8 8
        have bS_8_c9 := cell_of_heap bS_8 9
        have bS_8_c10 := cell_of_heap bS_8 10
        have bS_8_f := frozen_of_heap bS_8
        have lS := heap_lt bS_8
        go_upto_region 10 with fail
        have hk9 : One (wr.heap.size) w8 (w8.setCell ⟨wr.heap.size, 10, none⟩ (.slice aE x.els.length dE)) := (Kp.setCell (Kp.refl (fun k => k = wr.heap.size) _) (.inl rfl) _)
        have z9 := hk9.size
        have N9 : New wr (w8.setCell ⟨wr.heap.size, 10, none⟩ (.slice aE x.els.length dE)) := New.one N8 hk9 (by omega)
        have bS_9 : (w8.setCell ⟨wr.heap.size, 10, none⟩ (.slice aE x.els.length dE)).heap[wr.heap.size]? = some (.cells #[.int .i64 x.kind, .int .i64 x.target, .int .i64 x.index.kind, .int .i64 x.index.val, .slice aI x.index.kids.length dI, .int .i64 x.value.kind, .int .i64 x.value.val, .slice aV x.value.kids.length dV, .int .i64 x.count, .slice aB x.body.length dB, .slice aE x.els.length dE] 74) := (setCell_heap bS_8 _)
        have oI_9 := oI_8.kp hk9 (by omega) (fun k e => .inl (by omega))
        have oV_9 := oV_8.kp hk9 (by omega) (fun k e => .inl (by omega))
        have oB_9 := oB_8.kp hk9 (by omega) (fun k e => .inl (by omega))
        have oE_9 := oE_8.kp hk9 (by omega) (fun k e => .inl (by omega))
        clear bS_8_c0 bS_8_c1 bS_8_c2 bS_8_c3 bS_8_c4 bS_8_c5 bS_8_c6 bS_8_c7 bS_8_c8 bS_8_c9 bS_8_c10 bS_8_f lS
        clear bS_8 oI_8 oV_8 oB_8 oE_8 hk9
        generalize (w8.setCell ⟨wr.heap.size, 10, none⟩ (.slice aE x.els.length dE)) = w9 at *
        obtain ⟨bS_9_c0, bS_9_c1, bS_9_c2, bS_9_c3, bS_9_c4, bS_9_c5, bS_9_c6, bS_9_c7⟩ := cells8 bS_9
        have bS_9_c8 := cell_of_heap bS_9 8
        have bS_9_c9 := cell_of_heap bS_9 9
        have bS_9_c10 := cell_of_heap bS_9 10
        have oZI := oI_9.mono (lo' := wr.heap.size) (hi' := w9.heap.size) (by omega) (by omega)
        have oZV := oV_9.mono (lo' := wr.heap.size) (hi' := w9.heap.size) (by omega) (by omega)
        have oZB := oB_9.mono (lo' := wr.heap.size) (hi' := w9.heap.size) (by omega) (by omega)
        have oZE := oE_9.mono (lo' := wr.heap.size) (hi' := w9.heap.size) (by omega) (by omega)
        have his : RS.Is w9 wr.heap.size w9.heap.size ⟨x.kind, x.target, x.index.kind, x.index.val, .slice aI x.index.kids.length dI, x.value.kind, x.value.val, .slice aV x.value.kids.length dV, x.count, .slice aB x.body.length dB, .slice aE x.els.length dE⟩ x := ⟨rfl, rfl, rfl, rfl, oZI, rfl, rfl, oZV, rfl, oZB, oZE⟩
        have hish := Lib.hid his
        clear his oZI oZV oZB oZE oI_9 oV_9 oB_9 oE_9
        have hGk := Lib.hid (hGh.out.new N9)
        have hnx : New w9 (w9.alloc (.cells (cellsS ⟨x.kind, x.target, x.index.kind, x.index.val, .slice aI x.index.kids.length dI, x.value.kind, x.value.val, .slice aV x.value.kids.length dV, x.count, .slice aB x.body.length dB, .slice aE x.els.length dE⟩) 74)) := (Kp.refl _ _).alloc _
        have hnxh := Lib.hid hnx
        clear hnx
        go_wp2_with (at_builtin; refine wpList_grow rfl _ _ 35 rfl w.heap.size 74 _ 152 Try.underlying35 infoS rfl (by decide) (.slice a j dd) (l.take j) rfl (hGk.out.new ((Kp.refl _ _).alloc _)) w9.heap.size 1 ⟨x.kind, x.target, x.index.kind, x.index.val, .slice aI x.index.kids.length dI, x.value.kind, x.value.val, .slice aV x.value.kids.length dV, x.count, .slice aB x.body.length dB, .slice aE x.els.length dE⟩ x rfl (Nat.le_refl _) (by decide) (newsS w9 ⟨x.kind, x.target, x.index.kind, x.index.val, .slice aI x.index.kids.length dI, x.value.kind, x.value.val, .slice aV x.value.kids.length dV, x.count, .slice aB x.body.length dB, .slice aE x.els.length dE⟩ _) hish.out.one wr.heap.size w9.heap.size (by omega) (size_alloc_le (Nat.le_refl _) _) (fun b hb => .inl (hGlh.out b hb).2) (MS.keep hish.out (fun k q1 q2 => Below.heap_alloc _ _ _ q2)) (by have := hlt2h.out; omega) (by have := hlt2h.out; omega) (size_alloc_le (by omega) _) ?_; intro v2 w2z hG2 hk2 ha2; have hG2h := Lib.hid hG2; have hk2h := Lib.hid hk2; clear hG2 hk2 ha2)
        have hG3 := hG2h.out
        rw [htk.out] at hG3
        obtain ⟨a6, d6, e6, _⟩ := hG3.len
        have hlt3 := hlt3h.out
        rw [hlt3] at e6
        have hN2 : New w w2z := New.on (N.trans (N9.trans hnxh.out)) hk2h.out (fun i e => (hGlh.out i e).1)
        have hGz := Lib.hid hG3
        subst e6
        clear hG3 hG2h hk2h hlt3
        go_roundw
        case rel => exact ⟨j + 1, by omega, by go_num, a6, d6, rfl, hN2, hGz.out⟩
        case measure => simp [intOf]; omega
      · obtain rfl : j = l.length := by omega
        have hS3 := Lib.hid (show StsG wr w.heap.size 74 (.slice a l.length dd) l by have h := hGh.out; rwa [List.take_of_length_le (Nat.le_refl _)] at h)
        clear hlt hGh
        go_wp2
        go_ret
        exact ⟨a, dd, rfl, N, hS3.out⟩
end Go.Proofs.Ytckikiaockkmbaa.CopyT
