/- The code of statements by spec. Conditions: the statements are valid; bounds on lengths. -/
import Derived.Test.YtckikiaockkmbaaUCmpE
import Derived.Test.YtckikiaockkmbaaUCmpQ
import Derived.Test.YtckikiaockkmbaaUEachP
import Derived.Test.YtckikiaockkmbaaUP2
import Derived.Test.YtckikiaockkmbaaUP4
import Derived.Test.YtckikiaockkmbaaUP1
namespace Go.Proofs.Ytckikiaockkmbaa.CmpM
open Go.RowKit Kit Val CmpP CmpS CmpE
set_option linter.unusedVariables false
section
variable {w wr w2 : World} {base lo hi bs bt br : Nat} {vl vf si sv sb se ul uf ul' uf' cl cf : Value} {x : St} {V : Array Value} {L M M' : List Ins} {n n2 : Int}
theorem _root_.Go.Proofs.Ytckikiaockkmbaa.CmpS.CS.sts {s : Value} {l : List St} (h : CS w base vl vf L ul uf wr) (h0 : CS w base vl vf M vl vf w) (h2 : hi ≤ base) (h3 : hi ≤ w.heap.size) (hs : StsR w lo hi s l) : StsR wr lo hi s l := by
  obtain ⟨F, K, _⟩ := h
  exact hs.kp K h3 fun k q => .inr (q.elim (fun q => by have := h0.low.1 k q; omega) (fun q => by have := h0.low.2 k q; omega))
/-- one cell of the code is written -/
theorem _root_.Go.Proofs.Ytckikiaockkmbaa.CmpS.CS.patch (h : CS w base vl vf M ul uf wr) (j : Nat) (hj : j < M.length) : ∃ b d, ul = .slice (some ⟨b, 0, none⟩) M.length d ∧ b < wr.heap.size ∧ M.length ≤ d ∧ d ≤ maxLen ∧ (∀ q, wr.frozen? ⟨b, q, none⟩ = false) ∧
    ∀ t, t < 5 → ∃ v, wr.cell? ⟨b, j * 5 + t, none⟩ = some v ∧ ∀ (y : Ins) (u : Value), (∀ q, q < 5 → encN y q = if q = t then u else encN M[j] q) → CS w base vl vf (M.set j y) ul uf (wr.setCell ⟨b, j * 5 + t, none⟩ u) := by
  obtain ⟨F, K, A, B, hl, g1, g2⟩ := h
  rcases A.form with ⟨e, _⟩ | ⟨b, cap, cs, rfl, hb1, hb2, hb3, hh, hs, hc⟩
  · subst e; exact absurd hj (Nat.not_lt_zero _)
  · refine ⟨b, cap, rfl, heap_lt hh, hb2, hb3, fun q => frozen_of_heap hh q, fun t ht => ⟨_, (cell_of_heap hh _).trans (hc j hj t ht), fun y u hu => ?_⟩⟩
    have kk : Kp (fun c => c = b) wr (wr.setCell ⟨b, j * 5 + t, none⟩ u) := (Kp.refl (fun c => c = b) _).setCell (.inl rfl) _
    refine ⟨F, K.over kk fun i q => (g1 i (by rw [q]; rfl)).elim (fun e => .inl (.inl e)) .inr, ?_, B.kp kk fun c e1 e2 => by subst e2; exact OwnF.apart A B (by decide) _ rfl e1, by rw [List.length_set]; exact hl, g1, g2⟩
    have := OwnF.mk' (enc := encN) (n := 5) (xs := M.set j y) (base := base) (setCell_heap (o := j * 5 + t) hh u) hb1 (by simpa using hb2) hb3 (by simpa using hs) (fun i hi q hq => by
      have hi2 : i < M.length := by simpa using hi
      rw [Array.getElem?_setIfInBounds]
      by_cases e : j = i
      · subst e
        rw [List.getElem_set_self, hu q hq]
        by_cases e2 : q = t
        · subst e2
          have hlt : j * 5 + q < cs.size := by omega
          simp [hlt]
        · rw [if_neg (by omega), if_neg e2]; exact hc j hj q hq
      · rw [List.getElem_set_ne e, if_neg (by omega)]; exact hc i hi2 q hq)
    rw [List.length_set] at this
    exact this
/-- what the code of a statement holds: the code so far; the variable with the slices cl, cf; the statement, the result, what the statement leads to -/
def Hs (w : World) (base : Nat) (vl vf : Value) (lo hi bs bt br : Nat) (x : St) (V : Array Value) (si sv sb se : Value) (M : List Ins) (ul uf cl cf : Value) (n : Int) (wr : World) : Prop := CS w base vl vf M ul uf wr ∧ wr.heap[bs]? = some (.cells #[cl, cf, .int .i64 n] 104 (0, 0)) ∧ wr.heap[bt]? = some (.cells V 74 (0, 0)) ∧
  wr.heap[br]? = some (.cells #[.slice none 0 0, .slice none 0 0, .int .i64 0] 104 (0, 0)) ∧ KidsR wr lo hi si x.index.kids ∧ KidsR wr lo hi sv x.value.kids ∧ StsR wr lo hi sb x.body ∧ StsR wr lo hi se x.els
theorem Hs.call (h : Hs w base vl vf lo hi bs bt br x V si sv sb se M ul uf cl cf n wr) (hb1 : hi ≤ base) (hbw : base ≤ w.heap.size) (k : CS wr base ul uf M' ul' uf' w2) : Hs w base vl vf lo hi bs bt br x V si sv sb se M' ul' uf' cl cf n w2 := by
  obtain ⟨C, S, T, R, a, b, c, d⟩ := h
  have z := C.size
  exact ⟨C.trans k, k.box C.start S (by decide) (by decide), k.box C.start T (by decide) (by decide), k.box C.start R (by decide) (by decide), k.kids C.start hb1 (by omega) a, k.kids C.start hb1 (by omega) b, k.sts C.start hb1 (by omega) c, k.sts C.start hb1 (by omega) d⟩
theorem Hs.same (h : Hs w base vl vf lo hi bs bt br x V si sv sb se M ul uf cl cf n wr) (hb1 : hi ≤ base) (hbw : base ≤ w.heap.size) (k : CS wr base ul uf M' ul uf w2) : Hs w base vl vf lo hi bs bt br x V si sv sb se M' ul uf cl cf n w2 := h.call hb1 hbw k
theorem Hs.box1 {w3 : World} (h : Hs w base vl vf lo hi bs bt br x V si sv sb se M ul uf cl cf n wr) (hbb : w.heap.size ≤ bs) (hl : bs ≠ bt) (hc : bs ≠ br) (hb : hi ≤ w.heap.size) (k : Kp (fun i => i = bs) wr w3) {cl2 cf2 : Value} {n2 : Int} (hS : w3.heap[bs]? = some (.cells #[cl2, cf2, .int .i64 n2] 104 (0, 0))) : Hs w base vl vf lo hi bs bt br x V si sv sb se M ul uf cl2 cf2 n2 w3 := by
  obtain ⟨C, S, T, R, a, b, c, d⟩ := h
  have z := C.size
  exact ⟨C.one S k hbb (by decide) (by decide), hS, (k.block _ (heap_lt T) (fun e => hl e.symm)).trans T, (k.block _ (heap_lt R) (fun e => hc e.symm)).trans R, a.kp k (by omega) (fun i e => .inr (by omega)), b.kp k (by omega) (fun i e => .inr (by omega)), c.kp k (by omega) (fun i e => .inr (by omega)), d.kp k (by omega) (fun i e => .inr (by omega))⟩
theorem Hs.put (h : Hs w base vl vf lo hi bs bt br x V si sv sb se M ul uf cl cf n wr) (hbb : w.heap.size ≤ bs) (hl : bs ≠ bt) (hc : bs ≠ br) (hb : hi ≤ w.heap.size) : Hs w base vl vf lo hi bs bt br x V si sv sb se M ul uf ul uf n2 (((wr.setCell ⟨bs, 0, none⟩ ul).setCell ⟨bs, 1, none⟩ uf).setCell ⟨bs, 2, none⟩ (.int .i64 n2)) :=
  h.box1 hbb hl hc hb ((((Kp.refl (fun i => i = bs) _).setCell (.inl rfl) _).setCell (.inl rfl) _).setCell (.inl rfl) _) (setCell_heap (setCell_heap (setCell_heap h.2.1 _) _) _)
theorem Hs.num (h : Hs w base vl vf lo hi bs bt br x V si sv sb se M ul uf cl cf n wr) (hbb : w.heap.size ≤ bs) (hl : bs ≠ bt) (hc : bs ≠ br) (hb : hi ≤ w.heap.size) : Hs w base vl vf lo hi bs bt br x V si sv sb se M ul uf cl cf n2 (wr.setCell ⟨bs, 2, none⟩ (.int .i64 n2)) :=
  h.box1 hbb hl hc hb ((Kp.refl (fun i => i = bs) _).setCell (.inl rfl) _) (setCell_heap h.2.1 _)
end
/-- what the code of statements answers -/
def Eb (w : World) (base : Nat) (vl vf : Value) (M : List Ins) (top : Int) (e : Ending) (w' : World) : Prop := ∃ ul uf n, e = .returned (.agg #[ul, uf, .int .i64 n]) ∧ CS w base vl vf M ul uf w' ∧ 0 ≤ n ∧ n ≤ top
def Does (lo hi base nv na N : Nat) : Prop := ∀ (w : World) (vl vf : Value) (L : List Ins) (n : Int) (tc : Value) (l : List St) (d m : Nat), St.sizes l < N → blB nv na l m = true → m + d ≤ 5 → base ≤ w.heap.size → CS w base vl vf L vl vf w → StsR w lo hi tc l → L.length + 4 * St.sizes l + 1 ≤ 1000000 → 0 ≤ n → n + St.sizes l ≤ 1000000 →
    Calls Try.prog 125 #[.agg #[vl, vf, .int .i64 n], tc, .int .i64 d] w (Eb w base vl vf (L ++ csts l L.length d) (n + St.sizes l))
set_option maxHeartbeats 16000000 in
set_option maxRecDepth 100000 in
theorem stmt (lo hi base nv na : Nat) (hb1 : hi ≤ base) (N : Nat) (ih : Does lo hi base nv na N) (w : World) (ul uf : Value) (M : List Ins) (n : Int) (x : St) (si sv sb se : Value) (d m : Nat) (hbz : St.sizes x.body < N) (hez : St.sizes x.els < N) (hvx : stB nv na x m = true) (hmd : m + d ≤ 5) (hbw : base ≤ w.heap.size) (h : CS w base ul uf M ul uf w)
    (ri : KidsR w lo hi si x.index.kids) (rv : KidsR w lo hi sv x.value.kids) (rb : StsR w lo hi sb x.body) (re : StsR w lo hi se x.els) (hMs : M.length + 4 * x.size + 1 ≤ 1000000) (hn0 : 0 ≤ n) (hns : n + x.size ≤ 1000000) :
    Calls Try.prog 145 #[.agg #[ul, uf, .int .i64 n], .agg #[.int .i64 x.kind, .int .i64 x.target, .int .i64 x.index.kind, .int .i64 x.index.val, si, .int .i64 x.value.kind, .int .i64 x.value.val, sv, .int .i64 x.count, sb, se], .int .i64 d] w (Eb w base ul uf (M ++ cst x M.length d) (n + x.size)) := by
  obtain ⟨⟨p0, q0, rfl⟩, pf0, qf0, rfl⟩ := h.lens
  obtain ⟨ai, di, rfl, _⟩ := ri.len
  obtain ⟨av, dv, rfl, _⟩ := rv.len
  obtain ⟨ab, db, rfl, _⟩ := rb.len
  obtain ⟨ae, de, rfl, _⟩ := re.len
  have ihh := Lib.hid ih
  have hsub := stB_sub hvx
  have hval := stB_val hvx
  have hd1 := hsub.1
  have hbB := Lib.hid hsub.2.1
  have heB := Lib.hid hsub.2.2.1
  have hrv := Lib.hid hval.1
  have hri := Lib.hid hval.2.1
  have hk1 := hval.2.2.2.2.1
  have hk5 := hval.2.2.2.2.2
  have hxs := St.size_eq x
  have hvs := Ex.size_kids x.value
  have his := Ex.size_kids x.index
  clear hsub hval ih hvx
  have N0 : New w (((w.alloc (.cells #[.slice p0 M.length q0, .slice pf0 M.length qf0, .int .i64 n] 104)).alloc (.cells #[.int .i64 x.kind, .int .i64 x.target, .int .i64 x.index.kind, .int .i64 x.index.val, .slice ai x.index.kids.length di, .int .i64 x.value.kind, .int .i64 x.value.val, .slice av x.value.kids.length dv, .int .i64 x.count, .slice ab x.body.length db, .slice ae x.els.length de] 74)).alloc (.cells #[.slice none 0 0, .slice none 0 0, .int .i64 0] 104)) := (((Kp.refl _ _).alloc _).alloc _).alloc _
  have bS : (((w.alloc (.cells #[.slice p0 M.length q0, .slice pf0 M.length qf0, .int .i64 n] 104)).alloc (.cells #[.int .i64 x.kind, .int .i64 x.target, .int .i64 x.index.kind, .int .i64 x.index.val, .slice ai x.index.kids.length di, .int .i64 x.value.kind, .int .i64 x.value.val, .slice av x.value.kids.length dv, .int .i64 x.count, .slice ab x.body.length db, .slice ae x.els.length de] 74)).alloc (.cells #[.slice none 0 0, .slice none 0 0, .int .i64 0] 104)).heap[w.heap.size]? = some (.cells #[.slice p0 M.length q0, .slice pf0 M.length qf0, .int .i64 n] 104) := heap_old (heap_old (alloc_heap _ _))
  have bT : (((w.alloc (.cells #[.slice p0 M.length q0, .slice pf0 M.length qf0, .int .i64 n] 104)).alloc (.cells #[.int .i64 x.kind, .int .i64 x.target, .int .i64 x.index.kind, .int .i64 x.index.val, .slice ai x.index.kids.length di, .int .i64 x.value.kind, .int .i64 x.value.val, .slice av x.value.kids.length dv, .int .i64 x.count, .slice ab x.body.length db, .slice ae x.els.length de] 74)).alloc (.cells #[.slice none 0 0, .slice none 0 0, .int .i64 0] 104)).heap[w.heap.size + 1]? = some (.cells #[.int .i64 x.kind, .int .i64 x.target, .int .i64 x.index.kind, .int .i64 x.index.val, .slice ai x.index.kids.length di, .int .i64 x.value.kind, .int .i64 x.value.val, .slice av x.value.kids.length dv, .int .i64 x.count, .slice ab x.body.length db, .slice ae x.els.length de] 74) := heap_old (heap_at (by simp))
  have bR : (((w.alloc (.cells #[.slice p0 M.length q0, .slice pf0 M.length qf0, .int .i64 n] 104)).alloc (.cells #[.int .i64 x.kind, .int .i64 x.target, .int .i64 x.index.kind, .int .i64 x.index.val, .slice ai x.index.kids.length di, .int .i64 x.value.kind, .int .i64 x.value.val, .slice av x.value.kids.length dv, .int .i64 x.count, .slice ab x.body.length db, .slice ae x.els.length de] 74)).alloc (.cells #[.slice none 0 0, .slice none 0 0, .int .i64 0] 104)).heap[w.heap.size + 1 + 1]? = some (.cells #[.slice none 0 0, .slice none 0 0, .int .i64 0] 104) := heap_at (by simp)
  have z0 : w.heap.size + 1 + 1 < (((w.alloc (.cells #[.slice p0 M.length q0, .slice pf0 M.length qf0, .int .i64 n] 104)).alloc (.cells #[.int .i64 x.kind, .int .i64 x.target, .int .i64 x.index.kind, .int .i64 x.index.val, .slice ai x.index.kids.length di, .int .i64 x.value.kind, .int .i64 x.value.val, .slice av x.value.kids.length dv, .int .i64 x.count, .slice ab x.body.length db, .slice ae x.els.length de] 74)).alloc (.cells #[.slice none 0 0, .slice none 0 0, .int .i64 0] 104)).heap.size := by simp
  have H0 := Lib.hid (show Hs w base (.slice p0 M.length q0) (.slice pf0 M.length qf0) lo hi w.heap.size (w.heap.size + 1) (w.heap.size + 1 + 1) x #[.int .i64 x.kind, .int .i64 x.target, .int .i64 x.index.kind, .int .i64 x.index.val, .slice ai x.index.kids.length di, .int .i64 x.value.kind, .int .i64 x.value.val, .slice av x.value.kids.length dv, .int .i64 x.count, .slice ab x.body.length db, .slice ae x.els.length de] (.slice ai x.index.kids.length di) (.slice av x.value.kids.length dv) (.slice ab x.body.length db) (.slice ae x.els.length de) M (.slice p0 M.length q0) (.slice pf0 M.length qf0) (.slice p0 M.length q0) (.slice pf0 M.length qf0) n (((w.alloc (.cells #[.slice p0 M.length q0, .slice pf0 M.length qf0, .int .i64 n] 104)).alloc (.cells #[.int .i64 x.kind, .int .i64 x.target, .int .i64 x.index.kind, .int .i64 x.index.val, .slice ai x.index.kids.length di, .int .i64 x.value.kind, .int .i64 x.value.val, .slice av x.value.kids.length dv, .int .i64 x.count, .slice ab x.body.length db, .slice ae x.els.length de] 74)).alloc (.cells #[.slice none 0 0, .slice none 0 0, .int .i64 0] 104)) from
    ⟨h.new N0, bS, bT, bR, ri.new (by omega) N0, rv.new (by omega) N0, rb.new (by omega) N0, re.new (by omega) N0⟩)
  clear h ri rv rb re bS bT bR
  go_enter Try.func145, Try.ntmps145
  go_upto_region 1 with fail
  generalize (((w.alloc (.cells #[.slice p0 M.length q0, .slice pf0 M.length qf0, .int .i64 n] 104)).alloc (.cells #[.int .i64 x.kind, .int .i64 x.target, .int .i64 x.index.kind, .int .i64 x.index.val, .slice ai x.index.kids.length di, .int .i64 x.value.kind, .int .i64 x.value.val, .slice av x.value.kids.length dv, .int .i64 x.count, .slice ab x.body.length db, .slice ae x.els.length de] 74)).alloc (.cells #[.slice none 0 0, .slice none 0 0, .int .i64 0] 104)) = w0 at *
  clear N0
  generalize hbs : w.heap.size = bs at *
  have hbb : w.heap.size ≤ bs := by omega
  have hbw : base ≤ w.heap.size := by omega
  clear hbs
  generalize hbt : bs + 1 = bt at *
  generalize hbr : bt + 1 = br at *
  have hbl : bs ≠ bt := by omega
  have hbc : bs ≠ br := by omega
  have hwr : w.heap.size ≤ br := by omega
  clear hbt hbr
  have cP0 := cell_of_heap H0.out.2.1 0
  have cP1 := cell_of_heap H0.out.2.1 1
  have cP2 := cell_of_heap H0.out.2.1 2
  have fP := frozen_of_heap H0.out.2.1
  have lP := heap_lt H0.out.2.1
  have H2 := Lib.hid (H0.out.num (n2 := n + 1) hbb hbl hbc (by omega))
  have z2 : w0.heap.size ≤ (w0.setCell ⟨bs, 2, none⟩ (.int .i64 (n + 1))).heap.size := by simp
  go_upto_region 3 with fail
  generalize w0.setCell ⟨bs, 2, none⟩ (.int .i64 (n + 1)) = w2 at *
  clear cP0 cP1 cP2 fP lP H0
  generalize hul : (Value.slice p0 M.length q0) = ul at *
  generalize huf : (Value.slice pf0 M.length qf0) = uf at *
  clear hul huf
  rcases (show x.kind = 1 ∨ x.kind = 5 ∨ x.kind = 2 ∨ x.kind = 3 ∨ x.kind = 4 by omega) with q | q | q | q | q
  all_goals have hq := Lib.hid q
  all_goals clear q hk1 hk5
  · as_aux_lemma =>
      obtain ⟨⟨p2, q2, eu2⟩, pf2, qf2, ef2⟩ := H2.out.1.lens
      subst eu2 ef2
      have cT0 : w2.cell? ⟨bt, 0, none⟩ = some (.int .i64 1) := by rw [← hq.out]; exact cell_of_heap H2.out.2.2.1 0
      have cT5 := cell_of_heap H2.out.2.2.1 5
      have cT6 := cell_of_heap H2.out.2.2.1 6
      have cT7 := cell_of_heap H2.out.2.2.1 7
      have cP0 := cell_of_heap H2.out.2.1 0
      have cP1 := cell_of_heap H2.out.2.1 1
      have cP2 := cell_of_heap H2.out.2.1 2
      go_wp2_with fail
      refine (CmpE.l7Expr lo hi base nv na hb1 (Ex.sizes x.value.kids + 1) w2 5 (.slice p2 M.length q2) (.slice pf2 M.length qf2) M (n + 1) n (.slice av x.value.kids.length dv) x.value.kind x.value.val x.value.kids 0 (Nat.lt_succ_self _) (by rw [Ex.eta']; exact (EvP.right_shp (hrv.out (by have := hq.out; omega))).1) (by omega) H2.out.1.start H2.out.2.2.2.2.2.1 (by omega) (by omega)).mono ?_
      rintro e w3 ⟨ul3, uf3, rfl, K3⟩
      rw [Ex.eta'] at K3
      obtain ⟨M1, qM1⟩ : ∃ M1, M1 = M ++ cex x.value ((0 : Nat) : Int) := ⟨_, rfl⟩
      rw [← qM1] at K3
      have laM1 : M.length ≤ M1.length := by rw [qM1, List.length_append]; omega
      have lbM1 : M1.length ≤ M.length + x.value.size := by rw [qM1, List.length_append]; have := cex_len x.value ((0 : Nat) : Int); omega
      have eM1 := Lib.hid qM1
      clear qM1
      obtain ⟨⟨p3, q3, eu3⟩, pf3, qf3, ef3⟩ := K3.lens
      subst eu3 ef3
      have z3 := K3.size
      have X3 := Lib.hid (H2.out.call hb1 hbw K3)
      clear cT0 cT5 cT6 cT7 cP0 cP1 cP2
      clear K3 H2
      skip
      have H4 := Lib.hid (X3.out.put (n2 := (n + 1)) hbb hbl hbc (by omega))
      have cP0 := cell_of_heap X3.out.2.1 0
      have cP1 := cell_of_heap X3.out.2.1 1
      have cP2 := cell_of_heap X3.out.2.1 2
      have fP := frozen_of_heap X3.out.2.1
      have lP := heap_lt X3.out.2.1
      clear X3
      go_upto_region 5 with fail
      have zz3 : w3.heap.size ≤ (((w3.setCell ⟨bs, 0, none⟩ (.slice p3 M1.length q3)).setCell ⟨bs, 1, none⟩ (.slice pf3 M1.length qf3)).setCell ⟨bs, 2, none⟩ (.int .i64 (n + 1))).heap.size := by simp
      generalize (((w3.setCell ⟨bs, 0, none⟩ (.slice p3 M1.length q3)).setCell ⟨bs, 1, none⟩ (.slice pf3 M1.length qf3)).setCell ⟨bs, 2, none⟩ (.int .i64 (n + 1))) = w4 at *
      clear cP0 cP1 cP2 fP lP
      have cT0 : w4.cell? ⟨bt, 0, none⟩ = some (.int .i64 1) := by rw [← hq.out]; exact cell_of_heap H4.out.2.2.1 0
      have cT1 := cell_of_heap H4.out.2.2.1 1
      have cP0 := cell_of_heap H4.out.2.1 0
      have cP1 := cell_of_heap H4.out.2.1 1
      have cP2 := cell_of_heap H4.out.2.1 2
      go_wp2_with fail
      refine (CmpS.l7Add w4 base (.slice p3 M1.length q3) (.slice pf3 M1.length qf3) M1 (n + 1) n ⟨3, x.target, 0, 0, 0⟩ H4.out.1.start (by omega) (by omega)).mono ?_
      rintro e w5 ⟨ul5, uf5, rfl, K5⟩
      obtain ⟨M2, qM2⟩ : ∃ M2 : List Ins, M2 = M1 ++ [⟨3, x.target, 0, 0, 0⟩] := ⟨_, rfl⟩
      rw [← qM2] at K5
      have laM2 : M1.length < M2.length := by rw [qM2]; simp
      have lbM2 : M2.length ≤ M1.length + 1 := by rw [qM2]; simp
      have eM2 := Lib.hid qM2
      clear qM2
      obtain ⟨⟨p5, q5, eu5⟩, pf5, qf5, ef5⟩ := K5.lens
      subst eu5 ef5
      have z5 := K5.size
      have X5 := Lib.hid (H4.out.call hb1 hbw K5)
      clear cT0 cT1 cP0 cP1 cP2
      clear K5 H4
      have hcst := Lib.hid (show M2 = M ++ cst x M.length (d : Int) by
        have := cst_1 (k := x.kind) hq.out M x.target x.index x.value x.count x.body x.els (d : Int); rw [← St.eta x] at this; rw [this]; simp [eM2.out, eM1.out])
      have cR0 := cell_of_heap X5.out.2.2.2.1 0
      have cR1 := cell_of_heap X5.out.2.2.2.1 1
      have cR2 := cell_of_heap X5.out.2.2.2.1 2
      have fR := frozen_of_heap X5.out.2.2.2.1
      have lR := heap_lt X5.out.2.2.2.1
      go_wp2
      have hkz := setMany_kp (br) [(.slice p5 M2.length q5), (.slice pf5 M2.length qf5), .int .i64 (n + 1)] w5 0
      have hR := setMany_row [(.slice p5 M2.length q5), (.slice pf5 M2.length qf5), .int .i64 (n + 1)] X5.out.2.2.2.1 rfl
      refine bodyPost_ret (results_cell_row rfl _ _ _ _ _ _ _ rfl hR Try.underlying104 rfl (by kernel_rfl)) rfl ?_
      exact ⟨_, _, _, rfl, by rw [← hcst.out]; exact X5.out.1.one X5.out.2.2.2.1 hkz (by omega) (by decide) (by decide), by omega, by omega⟩
  · as_aux_lemma =>
      obtain ⟨⟨p2, q2, eu2⟩, pf2, qf2, ef2⟩ := H2.out.1.lens
      subst eu2 ef2
      have cT0 : w2.cell? ⟨bt, 0, none⟩ = some (.int .i64 5) := by rw [← hq.out]; exact cell_of_heap H2.out.2.2.1 0
      have cT5 := cell_of_heap H2.out.2.2.1 5
      have cT6 := cell_of_heap H2.out.2.2.1 6
      have cT7 := cell_of_heap H2.out.2.2.1 7
      have cP0 := cell_of_heap H2.out.2.1 0
      have cP1 := cell_of_heap H2.out.2.1 1
      have cP2 := cell_of_heap H2.out.2.1 2
      go_wp2_with fail
      refine (CmpE.l7Expr lo hi base nv na hb1 (Ex.sizes x.value.kids + 1) w2 5 (.slice p2 M.length q2) (.slice pf2 M.length qf2) M (n + 1) n (.slice av x.value.kids.length dv) x.value.kind x.value.val x.value.kids 0 (Nat.lt_succ_self _) (by rw [Ex.eta']; exact (EvP.right_shp (hrv.out (by have := hq.out; omega))).1) (by omega) H2.out.1.start H2.out.2.2.2.2.2.1 (by omega) (by omega)).mono ?_
      rintro e w3 ⟨ul3, uf3, rfl, K3⟩
      rw [Ex.eta'] at K3
      obtain ⟨M1, qM1⟩ : ∃ M1, M1 = M ++ cex x.value ((0 : Nat) : Int) := ⟨_, rfl⟩
      rw [← qM1] at K3
      have laM1 : M.length ≤ M1.length := by rw [qM1, List.length_append]; omega
      have lbM1 : M1.length ≤ M.length + x.value.size := by rw [qM1, List.length_append]; have := cex_len x.value ((0 : Nat) : Int); omega
      have eM1 := Lib.hid qM1
      clear qM1
      obtain ⟨⟨p3, q3, eu3⟩, pf3, qf3, ef3⟩ := K3.lens
      subst eu3 ef3
      have z3 := K3.size
      have X3 := Lib.hid (H2.out.call hb1 hbw K3)
      clear cT0 cT5 cT6 cT7 cP0 cP1 cP2
      clear K3 H2
      skip
      have H4 := Lib.hid (X3.out.put (n2 := (n + 1)) hbb hbl hbc (by omega))
      have cP0 := cell_of_heap X3.out.2.1 0
      have cP1 := cell_of_heap X3.out.2.1 1
      have cP2 := cell_of_heap X3.out.2.1 2
      have fP := frozen_of_heap X3.out.2.1
      have lP := heap_lt X3.out.2.1
      clear X3
      go_upto_region 5 with fail
      have zz3 : w3.heap.size ≤ (((w3.setCell ⟨bs, 0, none⟩ (.slice p3 M1.length q3)).setCell ⟨bs, 1, none⟩ (.slice pf3 M1.length qf3)).setCell ⟨bs, 2, none⟩ (.int .i64 (n + 1))).heap.size := by simp
      generalize (((w3.setCell ⟨bs, 0, none⟩ (.slice p3 M1.length q3)).setCell ⟨bs, 1, none⟩ (.slice pf3 M1.length qf3)).setCell ⟨bs, 2, none⟩ (.int .i64 (n + 1))) = w4 at *
      clear cP0 cP1 cP2 fP lP
      have cT0 : w4.cell? ⟨bt, 0, none⟩ = some (.int .i64 5) := by rw [← hq.out]; exact cell_of_heap H4.out.2.2.1 0
      have cP0 := cell_of_heap H4.out.2.1 0
      have cP1 := cell_of_heap H4.out.2.1 1
      have cP2 := cell_of_heap H4.out.2.1 2
      go_wp2_with fail
      refine (CmpS.l7Add w4 base (.slice p3 M1.length q3) (.slice pf3 M1.length qf3) M1 (n + 1) n ⟨11, 0, 0, 0, 0⟩ H4.out.1.start (by omega) (by omega)).mono ?_
      rintro e w5 ⟨ul5, uf5, rfl, K5⟩
      obtain ⟨M2, qM2⟩ : ∃ M2 : List Ins, M2 = M1 ++ [⟨11, 0, 0, 0, 0⟩] := ⟨_, rfl⟩
      rw [← qM2] at K5
      have laM2 : M1.length < M2.length := by rw [qM2]; simp
      have lbM2 : M2.length ≤ M1.length + 1 := by rw [qM2]; simp
      have eM2 := Lib.hid qM2
      clear qM2
      obtain ⟨⟨p5, q5, eu5⟩, pf5, qf5, ef5⟩ := K5.lens
      subst eu5 ef5
      have z5 := K5.size
      have X5 := Lib.hid (H4.out.call hb1 hbw K5)
      clear cT0 cP0 cP1 cP2
      clear K5 H4
      skip
      have H6 := Lib.hid (X5.out.put (n2 := (n + 1)) hbb hbl hbc (by omega))
      have cP0 := cell_of_heap X5.out.2.1 0
      have cP1 := cell_of_heap X5.out.2.1 1
      have cP2 := cell_of_heap X5.out.2.1 2
      have fP := frozen_of_heap X5.out.2.1
      have lP := heap_lt X5.out.2.1
      clear X5
      go_upto_region 10 with fail
      have zz5 : w5.heap.size ≤ (((w5.setCell ⟨bs, 0, none⟩ (.slice p5 M2.length q5)).setCell ⟨bs, 1, none⟩ (.slice pf5 M2.length qf5)).setCell ⟨bs, 2, none⟩ (.int .i64 (n + 1))).heap.size := by simp
      generalize (((w5.setCell ⟨bs, 0, none⟩ (.slice p5 M2.length q5)).setCell ⟨bs, 1, none⟩ (.slice pf5 M2.length qf5)).setCell ⟨bs, 2, none⟩ (.int .i64 (n + 1))) = w6 at *
      clear cP0 cP1 cP2 fP lP
      have cT1 := cell_of_heap H6.out.2.2.1 1
      have cP0 := cell_of_heap H6.out.2.1 0
      have cP1 := cell_of_heap H6.out.2.1 1
      have cP2 := cell_of_heap H6.out.2.1 2
      go_wp2_with fail
      refine (CmpS.l7Add w6 base (.slice p5 M2.length q5) (.slice pf5 M2.length qf5) M2 (n + 1) n ⟨3, x.target, 0, 0, 0⟩ H6.out.1.start (by omega) (by omega)).mono ?_
      rintro e w7 ⟨ul7, uf7, rfl, K7⟩
      obtain ⟨M3, qM3⟩ : ∃ M3 : List Ins, M3 = M2 ++ [⟨3, x.target, 0, 0, 0⟩] := ⟨_, rfl⟩
      rw [← qM3] at K7
      have laM3 : M2.length < M3.length := by rw [qM3]; simp
      have lbM3 : M3.length ≤ M2.length + 1 := by rw [qM3]; simp
      have eM3 := Lib.hid qM3
      clear qM3
      obtain ⟨⟨p7, q7, eu7⟩, pf7, qf7, ef7⟩ := K7.lens
      subst eu7 ef7
      have z7 := K7.size
      have X7 := Lib.hid (H6.out.call hb1 hbw K7)
      clear cT1 cP0 cP1 cP2
      clear K7 H6
      have hcst := Lib.hid (show M3 = M ++ cst x M.length (d : Int) by
        have := cst_5 (k := x.kind) hq.out M x.target x.index x.value x.count x.body x.els (d : Int); rw [← St.eta x] at this; rw [this]; simp [eM3.out, eM2.out, eM1.out])
      have cR0 := cell_of_heap X7.out.2.2.2.1 0
      have cR1 := cell_of_heap X7.out.2.2.2.1 1
      have cR2 := cell_of_heap X7.out.2.2.2.1 2
      have fR := frozen_of_heap X7.out.2.2.2.1
      have lR := heap_lt X7.out.2.2.2.1
      go_wp2
      have hkz := setMany_kp (br) [(.slice p7 M3.length q7), (.slice pf7 M3.length qf7), .int .i64 (n + 1)] w7 0
      have hR := setMany_row [(.slice p7 M3.length q7), (.slice pf7 M3.length qf7), .int .i64 (n + 1)] X7.out.2.2.2.1 rfl
      refine bodyPost_ret (results_cell_row rfl _ _ _ _ _ _ _ rfl hR Try.underlying104 rfl (by kernel_rfl)) rfl ?_
      exact ⟨_, _, _, rfl, by rw [← hcst.out]; exact X7.out.1.one X7.out.2.2.2.1 hkz (by omega) (by decide) (by decide), by omega, by omega⟩
  · as_aux_lemma =>
      obtain ⟨⟨p2, q2, eu2⟩, pf2, qf2, ef2⟩ := H2.out.1.lens
      subst eu2 ef2
      have cT0 : w2.cell? ⟨bt, 0, none⟩ = some (.int .i64 2) := by rw [← hq.out]; exact cell_of_heap H2.out.2.2.1 0
      have cT5 := cell_of_heap H2.out.2.2.1 5
      have cT6 := cell_of_heap H2.out.2.2.1 6
      have cT7 := cell_of_heap H2.out.2.2.1 7
      have cP0 := cell_of_heap H2.out.2.1 0
      have cP1 := cell_of_heap H2.out.2.1 1
      have cP2 := cell_of_heap H2.out.2.1 2
      go_wp2_with fail
      refine (CmpE.l7Expr lo hi base nv na hb1 (Ex.sizes x.value.kids + 1) w2 5 (.slice p2 M.length q2) (.slice pf2 M.length qf2) M (n + 1) n (.slice av x.value.kids.length dv) x.value.kind x.value.val x.value.kids 0 (Nat.lt_succ_self _) (by rw [Ex.eta']; exact (EvP.right_shp (hrv.out (by have := hq.out; omega))).1) (by omega) H2.out.1.start H2.out.2.2.2.2.2.1 (by omega) (by omega)).mono ?_
      rintro e w3 ⟨ul3, uf3, rfl, K3⟩
      rw [Ex.eta'] at K3
      obtain ⟨M1, qM1⟩ : ∃ M1, M1 = M ++ cex x.value ((0 : Nat) : Int) := ⟨_, rfl⟩
      rw [← qM1] at K3
      have laM1 : M.length ≤ M1.length := by rw [qM1, List.length_append]; omega
      have lbM1 : M1.length ≤ M.length + x.value.size := by rw [qM1, List.length_append]; have := cex_len x.value ((0 : Nat) : Int); omega
      have eM1 := Lib.hid qM1
      clear qM1
      obtain ⟨⟨p3, q3, eu3⟩, pf3, qf3, ef3⟩ := K3.lens
      subst eu3 ef3
      have z3 := K3.size
      have X3 := Lib.hid (H2.out.call hb1 hbw K3)
      clear cT0 cT5 cT6 cT7 cP0 cP1 cP2
      clear K3 H2
      skip
      have H4 := Lib.hid (X3.out.put (n2 := (n + 1)) hbb hbl hbc (by omega))
      have cP0 := cell_of_heap X3.out.2.1 0
      have cP1 := cell_of_heap X3.out.2.1 1
      have cP2 := cell_of_heap X3.out.2.1 2
      have fP := frozen_of_heap X3.out.2.1
      have lP := heap_lt X3.out.2.1
      clear X3
      go_upto_region 5 with fail
      have zz3 : w3.heap.size ≤ (((w3.setCell ⟨bs, 0, none⟩ (.slice p3 M1.length q3)).setCell ⟨bs, 1, none⟩ (.slice pf3 M1.length qf3)).setCell ⟨bs, 2, none⟩ (.int .i64 (n + 1))).heap.size := by simp
      generalize (((w3.setCell ⟨bs, 0, none⟩ (.slice p3 M1.length q3)).setCell ⟨bs, 1, none⟩ (.slice pf3 M1.length qf3)).setCell ⟨bs, 2, none⟩ (.int .i64 (n + 1))) = w4 at *
      clear cP0 cP1 cP2 fP lP
      have cT0 : w4.cell? ⟨bt, 0, none⟩ = some (.int .i64 2) := by rw [← hq.out]; exact cell_of_heap H4.out.2.2.1 0
      have cT1 := cell_of_heap H4.out.2.2.1 1
      have cT2 := cell_of_heap H4.out.2.2.1 2
      have cT3 := cell_of_heap H4.out.2.2.1 3
      have cT4 := cell_of_heap H4.out.2.2.1 4
      have cP0 := cell_of_heap H4.out.2.1 0
      have cP1 := cell_of_heap H4.out.2.1 1
      have cP2 := cell_of_heap H4.out.2.1 2
      go_wp2_with fail
      refine (CmpE.l7Expr lo hi base nv na hb1 (Ex.sizes x.index.kids + 1) w4 5 (.slice p3 M1.length q3) (.slice pf3 M1.length qf3) M1 (n + 1) n (.slice ai x.index.kids.length di) x.index.kind x.index.val x.index.kids 1 (Nat.lt_succ_self _) (by rw [Ex.eta']; exact (EvP.right_shp (hri.out (by have := hq.out; omega)).1).1) (by omega) H4.out.1.start H4.out.2.2.2.2.1 (by omega) (by omega)).mono ?_
      rintro e w5 ⟨ul5, uf5, rfl, K5⟩
      rw [Ex.eta'] at K5
      obtain ⟨M2, qM2⟩ : ∃ M2, M2 = M1 ++ cex x.index ((1 : Nat) : Int) := ⟨_, rfl⟩
      rw [← qM2] at K5
      have laM2 : M1.length ≤ M2.length := by rw [qM2, List.length_append]; omega
      have lbM2 : M2.length ≤ M1.length + x.index.size := by rw [qM2, List.length_append]; have := cex_len x.index ((1 : Nat) : Int); omega
      have eM2 := Lib.hid qM2
      clear qM2
      obtain ⟨⟨p5, q5, eu5⟩, pf5, qf5, ef5⟩ := K5.lens
      subst eu5 ef5
      have z5 := K5.size
      have X5 := Lib.hid (H4.out.call hb1 hbw K5)
      clear cT0 cT1 cT2 cT3 cT4 cP0 cP1 cP2
      clear K5 H4
      skip
      have H6 := Lib.hid (X5.out.put (n2 := (n + 1)) hbb hbl hbc (by omega))
      have cP0 := cell_of_heap X5.out.2.1 0
      have cP1 := cell_of_heap X5.out.2.1 1
      have cP2 := cell_of_heap X5.out.2.1 2
      have fP := frozen_of_heap X5.out.2.1
      have lP := heap_lt X5.out.2.1
      clear X5
      go_upto_region 13 with fail
      have zz5 : w5.heap.size ≤ (((w5.setCell ⟨bs, 0, none⟩ (.slice p5 M2.length q5)).setCell ⟨bs, 1, none⟩ (.slice pf5 M2.length qf5)).setCell ⟨bs, 2, none⟩ (.int .i64 (n + 1))).heap.size := by simp
      generalize (((w5.setCell ⟨bs, 0, none⟩ (.slice p5 M2.length q5)).setCell ⟨bs, 1, none⟩ (.slice pf5 M2.length qf5)).setCell ⟨bs, 2, none⟩ (.int .i64 (n + 1))) = w6 at *
      clear cP0 cP1 cP2 fP lP
      have cT1 := cell_of_heap H6.out.2.2.1 1
      have cP0 := cell_of_heap H6.out.2.1 0
      have cP1 := cell_of_heap H6.out.2.1 1
      have cP2 := cell_of_heap H6.out.2.1 2
      go_wp2_with fail
      refine (CmpS.l7Add w6 base (.slice p5 M2.length q5) (.slice pf5 M2.length qf5) M2 (n + 1) n ⟨5, x.target, 1, 0, 0⟩ H6.out.1.start (by omega) (by omega)).mono ?_
      rintro e w7 ⟨ul7, uf7, rfl, K7⟩
      obtain ⟨M3, qM3⟩ : ∃ M3 : List Ins, M3 = M2 ++ [⟨5, x.target, 1, 0, 0⟩] := ⟨_, rfl⟩
      rw [← qM3] at K7
      have laM3 : M2.length < M3.length := by rw [qM3]; simp
      have lbM3 : M3.length ≤ M2.length + 1 := by rw [qM3]; simp
      have eM3 := Lib.hid qM3
      clear qM3
      obtain ⟨⟨p7, q7, eu7⟩, pf7, qf7, ef7⟩ := K7.lens
      subst eu7 ef7
      have z7 := K7.size
      have X7 := Lib.hid (H6.out.call hb1 hbw K7)
      clear cT1 cP0 cP1 cP2
      clear K7 H6
      have hcst := Lib.hid (show M3 = M ++ cst x M.length (d : Int) by
        have := cst_2 (k := x.kind) hq.out M x.target x.index x.value x.count x.body x.els (d : Int); rw [← St.eta x] at this; rw [this]; simp [eM3.out, eM2.out, eM1.out])
      have cR0 := cell_of_heap X7.out.2.2.2.1 0
      have cR1 := cell_of_heap X7.out.2.2.2.1 1
      have cR2 := cell_of_heap X7.out.2.2.2.1 2
      have fR := frozen_of_heap X7.out.2.2.2.1
      have lR := heap_lt X7.out.2.2.2.1
      go_wp2
      have hkz := setMany_kp (br) [(.slice p7 M3.length q7), (.slice pf7 M3.length qf7), .int .i64 (n + 1)] w7 0
      have hR := setMany_row [(.slice p7 M3.length q7), (.slice pf7 M3.length qf7), .int .i64 (n + 1)] X7.out.2.2.2.1 rfl
      refine bodyPost_ret (results_cell_row rfl _ _ _ _ _ _ _ rfl hR Try.underlying104 rfl (by kernel_rfl)) rfl ?_
      exact ⟨_, _, _, rfl, by rw [← hcst.out]; exact X7.out.1.one X7.out.2.2.2.1 hkz (by omega) (by decide) (by decide), by omega, by omega⟩
  · skip
    obtain ⟨⟨p2, q2, eu2⟩, pf2, qf2, ef2⟩ := H2.out.1.lens
    subst eu2 ef2
    have cT0 : w2.cell? ⟨bt, 0, none⟩ = some (.int .i64 3) := by rw [← hq.out]; exact cell_of_heap H2.out.2.2.1 0
    have cT5 := cell_of_heap H2.out.2.2.1 5
    have cT6 := cell_of_heap H2.out.2.2.1 6
    have cT7 := cell_of_heap H2.out.2.2.1 7
    have cP0 := cell_of_heap H2.out.2.1 0
    have cP1 := cell_of_heap H2.out.2.1 1
    have cP2 := cell_of_heap H2.out.2.1 2
    go_wp2_with fail
    refine (CmpE.l7Expr lo hi base nv na hb1 (Ex.sizes x.value.kids + 1) w2 5 (.slice p2 M.length q2) (.slice pf2 M.length qf2) M (n + 1) n (.slice av x.value.kids.length dv) x.value.kind x.value.val x.value.kids 0 (Nat.lt_succ_self _) (by rw [Ex.eta']; exact (EvP.right_shp (hrv.out (by have := hq.out; omega))).1) (by omega) H2.out.1.start H2.out.2.2.2.2.2.1 (by omega) (by omega)).mono ?_
    rintro e w3 ⟨ul3, uf3, rfl, K3⟩
    rw [Ex.eta'] at K3
    obtain ⟨M1, qM1⟩ : ∃ M1, M1 = M ++ cex x.value ((0 : Nat) : Int) := ⟨_, rfl⟩
    rw [← qM1] at K3
    have laM1 : M.length ≤ M1.length := by rw [qM1, List.length_append]; omega
    have lbM1 : M1.length ≤ M.length + x.value.size := by rw [qM1, List.length_append]; have := cex_len x.value ((0 : Nat) : Int); omega
    have eM1 := Lib.hid qM1
    clear qM1
    obtain ⟨⟨p3, q3, eu3⟩, pf3, qf3, ef3⟩ := K3.lens
    subst eu3 ef3
    have z3 := K3.size
    have X3 := Lib.hid (H2.out.call hb1 hbw K3)
    clear cT0 cT5 cT6 cT7 cP0 cP1 cP2
    clear K3 H2
    skip
    have H4 := Lib.hid (X3.out.put (n2 := (n + 1)) hbb hbl hbc (by omega))
    have cP0 := cell_of_heap X3.out.2.1 0
    have cP1 := cell_of_heap X3.out.2.1 1
    have cP2 := cell_of_heap X3.out.2.1 2
    have fP := frozen_of_heap X3.out.2.1
    have lP := heap_lt X3.out.2.1
    clear X3
    go_upto_region 5 with fail
    have zz3 : w3.heap.size ≤ (((w3.setCell ⟨bs, 0, none⟩ (.slice p3 M1.length q3)).setCell ⟨bs, 1, none⟩ (.slice pf3 M1.length qf3)).setCell ⟨bs, 2, none⟩ (.int .i64 (n + 1))).heap.size := by simp
    generalize (((w3.setCell ⟨bs, 0, none⟩ (.slice p3 M1.length q3)).setCell ⟨bs, 1, none⟩ (.slice pf3 M1.length qf3)).setCell ⟨bs, 2, none⟩ (.int .i64 (n + 1))) = w4 at *
    clear cP0 cP1 cP2 fP lP
    have cT0 : w4.cell? ⟨bt, 0, none⟩ = some (.int .i64 3) := by rw [← hq.out]; exact cell_of_heap H4.out.2.2.1 0
    have cP0 := cell_of_heap H4.out.2.1 0
    have cP1 := cell_of_heap H4.out.2.1 1
    have cP2 := cell_of_heap H4.out.2.1 2
    go_upto_region 16 with fail
    clear cT0 cP0 cP1 cP2
    have cP0 := cell_of_heap H4.out.2.1 0
    have cP1 := cell_of_heap H4.out.2.1 1
    have cP2 := cell_of_heap H4.out.2.1 2
    go_wp2_with fail
    refine (CmpS.l7Add w4 base (.slice p3 M1.length q3) (.slice pf3 M1.length qf3) M1 (n + 1) n ⟨9, 0, 0, 0, 0⟩ H4.out.1.start (by omega) (by omega)).mono ?_
    rintro e w5 ⟨ul5, uf5, rfl, K5⟩
    obtain ⟨M2, qM2⟩ : ∃ M2 : List Ins, M2 = M1 ++ [⟨9, 0, 0, 0, 0⟩] := ⟨_, rfl⟩
    rw [← qM2] at K5
    have laM2 : M1.length < M2.length := by rw [qM2]; simp
    have lbM2 : M2.length ≤ M1.length + 1 := by rw [qM2]; simp
    have eM2 := Lib.hid qM2
    clear qM2
    obtain ⟨⟨p5, q5, eu5⟩, pf5, qf5, ef5⟩ := K5.lens
    subst eu5 ef5
    have z5 := K5.size
    have X5 := Lib.hid (H4.out.call hb1 hbw K5)
    clear cP0 cP1 cP2
    clear K5 H4
    skip
    have H6 := Lib.hid (X5.out.put (n2 := (n + 1)) hbb hbl hbc (by omega))
    have cP0 := cell_of_heap X5.out.2.1 0
    have cP1 := cell_of_heap X5.out.2.1 1
    have cP2 := cell_of_heap X5.out.2.1 2
    have fP := frozen_of_heap X5.out.2.1
    have lP := heap_lt X5.out.2.1
    clear X5
    go_upto_region 17 with fail
    have zz5 : w5.heap.size ≤ (((w5.setCell ⟨bs, 0, none⟩ (.slice p5 M2.length q5)).setCell ⟨bs, 1, none⟩ (.slice pf5 M2.length qf5)).setCell ⟨bs, 2, none⟩ (.int .i64 (n + 1))).heap.size := by simp
    generalize (((w5.setCell ⟨bs, 0, none⟩ (.slice p5 M2.length q5)).setCell ⟨bs, 1, none⟩ (.slice pf5 M2.length qf5)).setCell ⟨bs, 2, none⟩ (.int .i64 (n + 1))) = w6 at *
    clear cP0 cP1 cP2 fP lP
    have cT9 := cell_of_heap H6.out.2.2.1 9
    have cP0 := cell_of_heap H6.out.2.1 0
    have cP1 := cell_of_heap H6.out.2.1 1
    have cP2 := cell_of_heap H6.out.2.1 2
    go_wp2_with fail
    rw [show (d : Int) + 1 = ((d + 1 : Nat) : Int) from rfl]
    refine (ihh.out w6 (.slice p5 M2.length q5) (.slice pf5 M2.length qf5) M2 (n + 1) (.slice ab x.body.length db) x.body (d + 1) (m - 1) hbz hbB.out (by omega) (by omega) H6.out.1.start H6.out.2.2.2.2.2.2.1 (by omega) (by omega) (by omega)).mono ?_
    rintro e w7 ⟨ul7, uf7, n7, rfl, K7, n07, n17⟩
    rw [show ((d + 1 : Nat) : Int) = (d : Int) + 1 from rfl] at K7
    obtain ⟨M3, qM3⟩ : ∃ M3, M3 = M2 ++ csts x.body M2.length ((d : Int) + 1) := ⟨_, rfl⟩
    rw [← qM3] at K7
    have laM3 : M2.length ≤ M3.length := by rw [qM3, List.length_append]; omega
    have lbM3 : M3.length ≤ M2.length + 4 * St.sizes x.body := by rw [qM3, List.length_append]; have := csts_le x.body M2.length ((d : Int) + 1); omega
    have eM3 := Lib.hid qM3
    clear qM3
    obtain ⟨⟨p7, q7, eu7⟩, pf7, qf7, ef7⟩ := K7.lens
    subst eu7 ef7
    have z7 := K7.size
    have X7 := Lib.hid (H6.out.call hb1 hbw K7)
    clear cT9 cP0 cP1 cP2
    clear K7 H6
    skip
    have H8 := Lib.hid (X7.out.put (n2 := n7) hbb hbl hbc (by omega))
    have cP0 := cell_of_heap X7.out.2.1 0
    have cP1 := cell_of_heap X7.out.2.1 1
    have cP2 := cell_of_heap X7.out.2.1 2
    have fP := frozen_of_heap X7.out.2.1
    have lP := heap_lt X7.out.2.1
    clear X7
    go_upto_region 18 with fail
    have zz7 : w7.heap.size ≤ (((w7.setCell ⟨bs, 0, none⟩ (.slice p7 M3.length q7)).setCell ⟨bs, 1, none⟩ (.slice pf7 M3.length qf7)).setCell ⟨bs, 2, none⟩ (.int .i64 n7)).heap.size := by simp
    generalize (((w7.setCell ⟨bs, 0, none⟩ (.slice p7 M3.length q7)).setCell ⟨bs, 1, none⟩ (.slice pf7 M3.length qf7)).setCell ⟨bs, 2, none⟩ (.int .i64 n7)) = w8 at *
    clear cP0 cP1 cP2 fP lP
    have cP0 := cell_of_heap H8.out.2.1 0
    have cP1 := cell_of_heap H8.out.2.1 1
    have cP2 := cell_of_heap H8.out.2.1 2
    go_upto_region 19 with fail
    clear cP0 cP1 cP2
    have cP0 := cell_of_heap H8.out.2.1 0
    have cP1 := cell_of_heap H8.out.2.1 1
    have cP2 := cell_of_heap H8.out.2.1 2
    go_wp2_with fail
    refine (CmpS.l7Add w8 base (.slice p7 M3.length q7) (.slice pf7 M3.length qf7) M3 n7 n ⟨8, 0, 0, 0, 0⟩ H8.out.1.start (by omega) (by omega)).mono ?_
    rintro e w9 ⟨ul9, uf9, rfl, K9⟩
    obtain ⟨M4, qM4⟩ : ∃ M4 : List Ins, M4 = M3 ++ [⟨8, 0, 0, 0, 0⟩] := ⟨_, rfl⟩
    rw [← qM4] at K9
    have laM4 : M3.length < M4.length := by rw [qM4]; simp
    have lbM4 : M4.length ≤ M3.length + 1 := by rw [qM4]; simp
    have eM4 := Lib.hid qM4
    clear qM4
    obtain ⟨⟨p9, q9, eu9⟩, pf9, qf9, ef9⟩ := K9.lens
    subst eu9 ef9
    have z9 := K9.size
    have X9 := Lib.hid (H8.out.call hb1 hbw K9)
    clear cP0 cP1 cP2
    clear K9 H8
    skip
    have H10 := Lib.hid (X9.out.put (n2 := n7) hbb hbl hbc (by omega))
    have cP0 := cell_of_heap X9.out.2.1 0
    have cP1 := cell_of_heap X9.out.2.1 1
    have cP2 := cell_of_heap X9.out.2.1 2
    have fP := frozen_of_heap X9.out.2.1
    have lP := heap_lt X9.out.2.1
    clear X9
    go_upto_region 20 with fail
    have zz9 : w9.heap.size ≤ (((w9.setCell ⟨bs, 0, none⟩ (.slice p9 M4.length q9)).setCell ⟨bs, 1, none⟩ (.slice pf9 M4.length qf9)).setCell ⟨bs, 2, none⟩ (.int .i64 n7)).heap.size := by simp
    generalize (((w9.setCell ⟨bs, 0, none⟩ (.slice p9 M4.length q9)).setCell ⟨bs, 1, none⟩ (.slice pf9 M4.length qf9)).setCell ⟨bs, 2, none⟩ (.int .i64 n7)) = w10 at *
    clear cP0 cP1 cP2 fP lP
    obtain ⟨pb11, pd11, pe11, -, -, -, pf11, pc11⟩ := H10.out.1.start.patch M1.length (by omega)
    cases pe11
    obtain ⟨pv, pg, ps⟩ := pc11 2 (by decide)
    have pfh := pf11 (M1.length * 5 + 2)
    have hlt : M1.length < M4.length := by omega
    have hget : M4[M1.length]? = some (⟨9, 0, 0, 0, 0⟩ : Ins) := by rw [eM4.out, List.getElem?_append_left (by omega), eM3.out, List.getElem?_append_left (by omega), eM2.out, List.getElem?_append_right (Nat.le_refl _)]; simp
    have hge2 : M4[M1.length] = (⟨9, 0, 0, 0, 0⟩ : Ins) := Option.some.inj ((List.getElem?_eq_getElem hlt).symm.trans hget)
    have K11 := ps ⟨9, 0, (M4.length : Int), 0, 0⟩ (.int .i64 M4.length) (fun q hq => by rw [hge2]; exact match q, hq with | 0, _ => rfl | 1, _ => rfl | 2, _ => rfl | 3, _ => rfl | 4, _ => rfl)
    have K11h := Lib.hid K11
    clear K11 ps pc11 pf11 hget hge2
    have cP0 := cell_of_heap H10.out.2.1 0
    obtain ⟨M5, qM5⟩ : ∃ M5 : List Ins, M5 = M4.set M1.length ⟨9, 0, (M4.length : Int), 0, 0⟩ := ⟨_, rfl⟩
    rw [← qM5] at K11h
    have hlM5 : M4.length = M5.length := by rw [qM5, List.length_set]
    have laM5 : M4.length ≤ M5.length := by omega
    have lbM5 : M5.length ≤ M4.length := by omega
    have hlM5h := Lib.hid hlM5
    have eM5 := Lib.hid qM5
    clear qM5 hlM5
    go_upto_region 21 with fail
    generalize w10.setCell ⟨pb11, M1.length * 5 + 2, none⟩ (.int .i64 M4.length) = w11 at *
    have K11 := K11h.out
    have H11 := Lib.hid (H10.out.same hb1 hbw K11)
    have z11 := K11.size
    clear cP0 pfh pg hlt
    clear K11 K11h H10
    have cT10 := cell_of_heap H11.out.2.2.1 10
    have cP0 := cell_of_heap H11.out.2.1 0
    have cP1 := cell_of_heap H11.out.2.1 1
    have cP2 := cell_of_heap H11.out.2.1 2
    go_wp2_with fail
    rw [show (d : Int) + 1 = ((d + 1 : Nat) : Int) from rfl]
    refine (ihh.out w11 (.slice (some ⟨pb11, 0, none⟩) M4.length q9) (.slice pf9 M4.length qf9) M5 n7 (.slice ae x.els.length de) x.els (d + 1) (m - 1) hez heB.out (by omega) (by omega) H11.out.1.start H11.out.2.2.2.2.2.2.2 (by omega) (by omega) (by omega)).mono ?_
    rintro e w12 ⟨ul12, uf12, n12, rfl, K12, n012, n112⟩
    rw [show ((d + 1 : Nat) : Int) = (d : Int) + 1 from rfl] at K12
    obtain ⟨M6, qM6⟩ : ∃ M6, M6 = M5 ++ csts x.els M5.length ((d : Int) + 1) := ⟨_, rfl⟩
    rw [← qM6] at K12
    have laM6 : M5.length ≤ M6.length := by rw [qM6, List.length_append]; omega
    have lbM6 : M6.length ≤ M5.length + 4 * St.sizes x.els := by rw [qM6, List.length_append]; have := csts_le x.els M5.length ((d : Int) + 1); omega
    have eM6 := Lib.hid qM6
    clear qM6
    obtain ⟨⟨p12, q12, eu12⟩, pf12, qf12, ef12⟩ := K12.lens
    subst eu12 ef12
    have z12 := K12.size
    have X12 := Lib.hid (H11.out.call hb1 hbw K12)
    clear cT10 cP0 cP1 cP2
    clear K12 H11
    skip
    have H13 := Lib.hid (X12.out.put (n2 := n12) hbb hbl hbc (by omega))
    have cP0 := cell_of_heap X12.out.2.1 0
    have cP1 := cell_of_heap X12.out.2.1 1
    have cP2 := cell_of_heap X12.out.2.1 2
    have fP := frozen_of_heap X12.out.2.1
    have lP := heap_lt X12.out.2.1
    clear X12
    go_upto_region 22 with fail
    have zz12 : w12.heap.size ≤ (((w12.setCell ⟨bs, 0, none⟩ (.slice p12 M6.length q12)).setCell ⟨bs, 1, none⟩ (.slice pf12 M6.length qf12)).setCell ⟨bs, 2, none⟩ (.int .i64 n12)).heap.size := by simp
    generalize (((w12.setCell ⟨bs, 0, none⟩ (.slice p12 M6.length q12)).setCell ⟨bs, 1, none⟩ (.slice pf12 M6.length qf12)).setCell ⟨bs, 2, none⟩ (.int .i64 n12)) = w13 at *
    clear cP0 cP1 cP2 fP lP
    obtain ⟨pb14, pd14, pe14, -, -, -, pf14, pc14⟩ := H13.out.1.start.patch M3.length (by omega)
    cases pe14
    obtain ⟨pv, pg, ps⟩ := pc14 1 (by decide)
    have pfh := pf14 (M3.length * 5 + 1)
    have hlt : M3.length < M6.length := by omega
    have hget : M6[M3.length]? = some (⟨8, 0, 0, 0, 0⟩ : Ins) := by rw [eM6.out, List.getElem?_append_left (by omega), eM5.out, List.getElem?_set_ne (by omega), eM4.out, List.getElem?_append_right (Nat.le_refl _)]; simp
    have hge2 : M6[M3.length] = (⟨8, 0, 0, 0, 0⟩ : Ins) := Option.some.inj ((List.getElem?_eq_getElem hlt).symm.trans hget)
    have K14 := ps ⟨8, (M6.length : Int), 0, 0, 0⟩ (.int .i64 M6.length) (fun q hq => by rw [hge2]; exact match q, hq with | 0, _ => rfl | 1, _ => rfl | 2, _ => rfl | 3, _ => rfl | 4, _ => rfl)
    have K14h := Lib.hid K14
    clear K14 ps pc14 pf14 hget hge2
    have cP0 := cell_of_heap H13.out.2.1 0
    obtain ⟨M7, qM7⟩ : ∃ M7 : List Ins, M7 = M6.set M3.length ⟨8, (M6.length : Int), 0, 0, 0⟩ := ⟨_, rfl⟩
    rw [← qM7] at K14h
    have hlM7 : M6.length = M7.length := by rw [qM7, List.length_set]
    have laM7 : M6.length ≤ M7.length := by omega
    have lbM7 : M7.length ≤ M6.length := by omega
    have hlM7h := Lib.hid hlM7
    have eM7 := Lib.hid qM7
    clear qM7 hlM7
    go_upto_region 23 with fail
    generalize w13.setCell ⟨pb14, M3.length * 5 + 1, none⟩ (.int .i64 M6.length) = w14 at *
    have K14 := K14h.out
    have H14 := Lib.hid (H13.out.same hb1 hbw K14)
    have z14 := K14.size
    clear cP0 pfh pg hlt
    clear K14 K14h H13
    have hcst0 := Lib.hid (show M7 = M ++ cst x M.length (d : Int) by
      have := cst_3 (k := x.kind) hq.out M x.target x.index x.value x.count x.body x.els (d : Int) M1 M2 M3 M4 M5 M6 eM1.out eM2.out eM3.out eM4.out eM5.out eM6.out; rw [← St.eta x] at this; rw [this, eM7.out])
    clear eM6 eM7
    generalize hpp : (some (⟨pb14, 0, none⟩ : Addr)) = pp at *
    clear hpp
    generalize hmm : M6.length = mm at *
    clear hmm
    have cP0 := cell_of_heap H14.out.2.1 0
    have cP1 := cell_of_heap H14.out.2.1 1
    have cP2 := cell_of_heap H14.out.2.1 2
    have X14 := H14
    have hcst := Lib.hid (show M7 = M ++ cst x M.length (d : Int) by
      exact hcst0.out)
    have cR0 := cell_of_heap X14.out.2.2.2.1 0
    have cR1 := cell_of_heap X14.out.2.2.2.1 1
    have cR2 := cell_of_heap X14.out.2.2.2.1 2
    have fR := frozen_of_heap X14.out.2.2.2.1
    have lR := heap_lt X14.out.2.2.2.1
    go_wp2
    have hkz := setMany_kp (br) [(.slice pp mm q12), (.slice pf12 mm qf12), .int .i64 n12] w14 0
    have hR := setMany_row [(.slice pp mm q12), (.slice pf12 mm qf12), .int .i64 n12] X14.out.2.2.2.1 rfl
    refine bodyPost_ret (results_cell_row rfl _ _ _ _ _ _ _ rfl hR Try.underlying104 rfl (by kernel_rfl)) rfl ?_
    exact ⟨_, _, _, rfl, by rw [← hcst.out]; exact X14.out.1.one X14.out.2.2.2.1 hkz (by omega) (by decide) (by decide), by omega, by omega⟩
  · as_aux_lemma =>
      obtain ⟨⟨p2, q2, eu2⟩, pf2, qf2, ef2⟩ := H2.out.1.lens
      subst eu2 ef2
      have cT0 : w2.cell? ⟨bt, 0, none⟩ = some (.int .i64 4) := by rw [← hq.out]; exact cell_of_heap H2.out.2.2.1 0
      have cT8 := cell_of_heap H2.out.2.2.1 8
      have cP0 := cell_of_heap H2.out.2.1 0
      have cP1 := cell_of_heap H2.out.2.1 1
      have cP2 := cell_of_heap H2.out.2.1 2
      go_wp2_with fail
      refine (CmpS.l7Add w2 base (.slice p2 M.length q2) (.slice pf2 M.length qf2) M (n + 1) n ⟨1, 9 + (d : Int), x.count, 0, 0⟩ H2.out.1.start (by omega) (by omega)).mono ?_
      rintro e w3 ⟨ul3, uf3, rfl, K3⟩
      obtain ⟨M1, qM1⟩ : ∃ M1 : List Ins, M1 = M ++ [⟨1, 9 + (d : Int), x.count, 0, 0⟩] := ⟨_, rfl⟩
      rw [← qM1] at K3
      have laM1 : M.length < M1.length := by rw [qM1]; simp
      have lbM1 : M1.length ≤ M.length + 1 := by rw [qM1]; simp
      have eM1 := Lib.hid qM1
      clear qM1
      obtain ⟨⟨p3, q3, eu3⟩, pf3, qf3, ef3⟩ := K3.lens
      subst eu3 ef3
      have z3 := K3.size
      have X3 := Lib.hid (H2.out.call hb1 hbw K3)
      clear cT0 cT8 cP0 cP1 cP2
      clear K3 H2
      skip
      have H4 := Lib.hid (X3.out.put (n2 := (n + 1)) hbb hbl hbc (by omega))
      have cP0 := cell_of_heap X3.out.2.1 0
      have cP1 := cell_of_heap X3.out.2.1 1
      have cP2 := cell_of_heap X3.out.2.1 2
      have fP := frozen_of_heap X3.out.2.1
      have lP := heap_lt X3.out.2.1
      clear X3
      go_upto_region 26 with fail
      have zz3 : w3.heap.size ≤ (((w3.setCell ⟨bs, 0, none⟩ (.slice p3 M1.length q3)).setCell ⟨bs, 1, none⟩ (.slice pf3 M1.length qf3)).setCell ⟨bs, 2, none⟩ (.int .i64 (n + 1))).heap.size := by simp
      generalize (((w3.setCell ⟨bs, 0, none⟩ (.slice p3 M1.length q3)).setCell ⟨bs, 1, none⟩ (.slice pf3 M1.length qf3)).setCell ⟨bs, 2, none⟩ (.int .i64 (n + 1))) = w4 at *
      clear cP0 cP1 cP2 fP lP
      have cP0 := cell_of_heap H4.out.2.1 0
      have cP1 := cell_of_heap H4.out.2.1 1
      have cP2 := cell_of_heap H4.out.2.1 2
      go_upto_region 27 with fail
      clear cP0 cP1 cP2
      have cT9 := cell_of_heap H4.out.2.2.1 9
      have cP0 := cell_of_heap H4.out.2.1 0
      have cP1 := cell_of_heap H4.out.2.1 1
      have cP2 := cell_of_heap H4.out.2.1 2
      go_wp2_with fail
      rw [show (d : Int) + 1 = ((d + 1 : Nat) : Int) from rfl]
      refine (ihh.out w4 (.slice p3 M1.length q3) (.slice pf3 M1.length qf3) M1 (n + 1) (.slice ab x.body.length db) x.body (d + 1) (m - 1) hbz hbB.out (by omega) (by omega) H4.out.1.start H4.out.2.2.2.2.2.2.1 (by omega) (by omega) (by omega)).mono ?_
      rintro e w5 ⟨ul5, uf5, n5, rfl, K5, n05, n15⟩
      rw [show ((d + 1 : Nat) : Int) = (d : Int) + 1 from rfl] at K5
      obtain ⟨M2, qM2⟩ : ∃ M2, M2 = M1 ++ csts x.body M1.length ((d : Int) + 1) := ⟨_, rfl⟩
      rw [← qM2] at K5
      have laM2 : M1.length ≤ M2.length := by rw [qM2, List.length_append]; omega
      have lbM2 : M2.length ≤ M1.length + 4 * St.sizes x.body := by rw [qM2, List.length_append]; have := csts_le x.body M1.length ((d : Int) + 1); omega
      have eM2 := Lib.hid qM2
      clear qM2
      obtain ⟨⟨p5, q5, eu5⟩, pf5, qf5, ef5⟩ := K5.lens
      subst eu5 ef5
      have z5 := K5.size
      have X5 := Lib.hid (H4.out.call hb1 hbw K5)
      clear cT9 cP0 cP1 cP2
      clear K5 H4
      skip
      have H6 := Lib.hid (X5.out.put (n2 := n5) hbb hbl hbc (by omega))
      have cP0 := cell_of_heap X5.out.2.1 0
      have cP1 := cell_of_heap X5.out.2.1 1
      have cP2 := cell_of_heap X5.out.2.1 2
      have fP := frozen_of_heap X5.out.2.1
      have lP := heap_lt X5.out.2.1
      clear X5
      go_upto_region 28 with fail
      have zz5 : w5.heap.size ≤ (((w5.setCell ⟨bs, 0, none⟩ (.slice p5 M2.length q5)).setCell ⟨bs, 1, none⟩ (.slice pf5 M2.length qf5)).setCell ⟨bs, 2, none⟩ (.int .i64 n5)).heap.size := by simp
      generalize (((w5.setCell ⟨bs, 0, none⟩ (.slice p5 M2.length q5)).setCell ⟨bs, 1, none⟩ (.slice pf5 M2.length qf5)).setCell ⟨bs, 2, none⟩ (.int .i64 n5)) = w6 at *
      clear cP0 cP1 cP2 fP lP
      have cP0 := cell_of_heap H6.out.2.1 0
      have cP1 := cell_of_heap H6.out.2.1 1
      have cP2 := cell_of_heap H6.out.2.1 2
      go_wp2_with fail
      refine (CmpS.l7Add w6 base (.slice p5 M2.length q5) (.slice pf5 M2.length qf5) M2 n5 n ⟨10, 9 + (d : Int), (M1.length : Int), 0, 0⟩ H6.out.1.start (by omega) (by omega)).mono ?_
      rintro e w7 ⟨ul7, uf7, rfl, K7⟩
      obtain ⟨M3, qM3⟩ : ∃ M3 : List Ins, M3 = M2 ++ [⟨10, 9 + (d : Int), (M1.length : Int), 0, 0⟩] := ⟨_, rfl⟩
      rw [← qM3] at K7
      have laM3 : M2.length < M3.length := by rw [qM3]; simp
      have lbM3 : M3.length ≤ M2.length + 1 := by rw [qM3]; simp
      have eM3 := Lib.hid qM3
      clear qM3
      obtain ⟨⟨p7, q7, eu7⟩, pf7, qf7, ef7⟩ := K7.lens
      subst eu7 ef7
      have z7 := K7.size
      have X7 := Lib.hid (H6.out.call hb1 hbw K7)
      clear cP0 cP1 cP2
      clear K7 H6
      have hcst := Lib.hid (show M3 = M ++ cst x M.length (d : Int) by
        have := cst_4 (k := x.kind) hq.out M x.target x.index x.value x.count x.body x.els (d : Int); rw [← St.eta x] at this; rw [this]; simp [eM3.out, eM2.out, eM1.out])
      have cR0 := cell_of_heap X7.out.2.2.2.1 0
      have cR1 := cell_of_heap X7.out.2.2.2.1 1
      have cR2 := cell_of_heap X7.out.2.2.2.1 2
      have fR := frozen_of_heap X7.out.2.2.2.1
      have lR := heap_lt X7.out.2.2.2.1
      go_wp2
      have hkz := setMany_kp (br) [(.slice p7 M3.length q7), (.slice pf7 M3.length qf7), .int .i64 n5] w7 0
      have hR := setMany_row [(.slice p7 M3.length q7), (.slice pf7 M3.length qf7), .int .i64 n5] X7.out.2.2.2.1 rfl
      refine bodyPost_ret (results_cell_row rfl _ _ _ _ _ _ _ rfl hR Try.underlying104 rfl (by kernel_rfl)) rfl ?_
      exact ⟨_, _, _, rfl, by rw [← hcst.out]; exact X7.out.1.one X7.out.2.2.2.1 hkz (by omega) (by decide) (by decide), by omega, by omega⟩

set_option maxHeartbeats 8000000 in
set_option maxRecDepth 100000 in
theorem does (lo hi base nv na : Nat) (hb1 : hi ≤ base) : ∀ N, Does lo hi base nv na N := by
  intro N
  induction N with
  | zero => intro w vl vf L n tc l d m h; exact absurd h (Nat.not_lt_zero _)
  | succ N ih =>
    intro w vl vf L n tc l d m hn hv hmd hbw h hs hL h0 hn1
    have hst := Lib.hid h
    have hsr0 := Lib.hid hs
    obtain ⟨⟨p0, q0, rfl⟩, pf0, qf0, rfl⟩ := h.lens
    obtain ⟨a3, d3, rfl, hkl⟩ := hs.len
    have N0 : New w ((w.alloc (.cells #[.slice p0 L.length q0, .slice pf0 L.length qf0, .int .i64 n] 104)).alloc (.cells #[.slice none 0 0, .slice none 0 0, .int .i64 0] 104)) := ((Kp.refl _ _).alloc _).alloc _
    have bS : ((w.alloc (.cells #[.slice p0 L.length q0, .slice pf0 L.length qf0, .int .i64 n] 104)).alloc (.cells #[.slice none 0 0, .slice none 0 0, .int .i64 0] 104)).heap[w.heap.size]? = some (.cells #[.slice p0 L.length q0, .slice pf0 L.length qf0, .int .i64 n] 104) := heap_old (alloc_heap _ _)
    have bR : ((w.alloc (.cells #[.slice p0 L.length q0, .slice pf0 L.length qf0, .int .i64 n] 104)).alloc (.cells #[.slice none 0 0, .slice none 0 0, .int .i64 0] 104)).heap[w.heap.size + 1]? = some (.cells #[.slice none 0 0, .slice none 0 0, .int .i64 0] 104) := heap_at (by simp)
    have C0 := Lib.hid (h.new N0)
    have hvh := Lib.hid hv
    have ihh := Lib.hid ih
    have hll := St.length_sizes l
    clear h hs hv ih
    go_enter Try.func125, Try.ntmps125
    go_upto_region 2 with fail
    generalize ((w.alloc (.cells #[.slice p0 L.length q0, .slice pf0 L.length qf0, .int .i64 n] 104)).alloc (.cells #[.slice none 0 0, .slice none 0 0, .int .i64 0] 104)) = w0 at *
    clear N0
    go_loopw [7] (fun i wr => ∃ (j : Nat) (ul uf : Value) (n' : Int), j ≤ l.length ∧ i = .int .i64 j ∧ wr.heap[w.heap.size]? = some (.cells #[ul, uf, .int .i64 n'] 104 (0, 0)) ∧ wr.heap[w.heap.size + 1]? = some (.cells #[.slice none 0 0, .slice none 0 0, .int .i64 0] 104 (0, 0)) ∧ CS w base (.slice p0 L.length q0) (.slice pf0 L.length qf0) (L ++ csts (l.take j) L.length d) ul uf wr ∧ 0 ≤ n' ∧ n' ≤ n + St.sizes (l.take j)) (fun i _ => l.length - (intOf i).toNat)
    case atStart => exact ⟨0, _, _, n, Nat.zero_le _, rfl, bS, bR, by simpa [csts] using C0.out, h0, by simp [St.sizes]⟩
    case round =>
      obtain ⟨j, ul, uf, n', hj, rfl, bS0, bR0, C, hn0, hn2⟩ := hrel
      have Ch := Lib.hid C
      have zw := C.size
      clear C C0 bS bR
      by_cases hlt : j < l.length
      · obtain ⟨b', o'', vi, vv, vb, ve, e, A⟩ := hsr0.out.elem j hlt
        cases e
        have hb2 := A.hhi
        have g0 := (Ch.out.low2 hst.out (b := b') (by omega) (by omega) (o'' + j * 11)).trans A.c0
        have g1 := (Ch.out.low2 hst.out (b := b') (by omega) (by omega) (o'' + j * 11 + 1)).trans A.c1
        have g2 := (Ch.out.low2 hst.out (b := b') (by omega) (by omega) (o'' + j * 11 + 2)).trans A.c2
        have g3 := (Ch.out.low2 hst.out (b := b') (by omega) (by omega) (o'' + j * 11 + 3)).trans A.c3
        have g4 := (Ch.out.low2 hst.out (b := b') (by omega) (by omega) (o'' + j * 11 + 4)).trans A.c4
        have g5 := (Ch.out.low2 hst.out (b := b') (by omega) (by omega) (o'' + j * 11 + 5)).trans A.c5
        have g6 := (Ch.out.low2 hst.out (b := b') (by omega) (by omega) (o'' + j * 11 + 6)).trans A.c6
        have g7 := (Ch.out.low2 hst.out (b := b') (by omega) (by omega) (o'' + j * 11 + 7)).trans A.c7
        have g8 := (Ch.out.low2 hst.out (b := b') (by omega) (by omega) (o'' + j * 11 + 8)).trans A.c8
        have g9 := (Ch.out.low2 hst.out (b := b') (by omega) (by omega) (o'' + j * 11 + 9)).trans A.c9
        have g10 := (Ch.out.low2 hst.out (b := b') (by omega) (by omega) (o'' + j * 11 + 10)).trans A.c10
        have k1 := Lib.hid (Ch.out.kids hst.out (by omega) (by omega) A.ri)
        have k2 := Lib.hid (Ch.out.kids hst.out (by omega) (by omega) A.rv)
        have k3 := Lib.hid (Ch.out.sts hst.out (by omega) (by omega) A.rb)
        have k4 := Lib.hid (Ch.out.sts hst.out (by omega) (by omega) A.re)
        have hp := St.parts_get l j hlt
        have hvx := Lib.hid (blB_get nv na m hvh.out j hlt)
        have hcx := Lib.hid (csts_step hlt L (d : Int))
        have hszt := St.sizes_take_succ l j hlt
        have hszl : St.sizes (l.take (j + 1)) ≤ St.sizes l := by rw [St.sizes_take_drop l (j + 1)]; omega
        have hcl := csts_le (l.take j) L.length (d : Int)
        have hML : (L ++ csts (l.take j) L.length (d : Int)).length = L.length + (csts (l.take j) L.length (d : Int)).length := List.length_append
        obtain ⟨x, hx⟩ : ∃ x, l[j] = x := ⟨_, rfl⟩
        rw [hx] at k1 k2 k3 k4 hp hvx hcx hszt g0 g1 g2 g3 g5 g6 g8
        obtain ⟨M, hM⟩ : ∃ M, L ++ csts (l.take j) L.length (d : Int) = M := ⟨_, rfl⟩
        rw [hM] at Ch hML hcx
        have hxs := St.size_eq x
        have hMs : M.length + 4 * x.size + 1 ≤ 1000000 := by omega
        have hns : n' + x.size ≤ 1000000 := by omega
        have hnt : n' + (x.size : Int) ≤ n + (St.sizes (l.take (j + 1)) : Int) := by omega
        have hbz : St.sizes x.body < N := by omega
        have hez : St.sizes x.els < N := by omega
        have hxe := Lib.hid (St.eta x)
        obtain ⟨⟨p1, q1, rfl⟩, pf1, qf1, rfl⟩ := Ch.out.lens
        clear A hx hM hcl hML hszt hszl hkl hxs
        obtain ⟨cS0, cS1, cS2⟩ := cells3 bS0
        obtain ⟨ai, di, rfl, _⟩ := k1.out.len
        obtain ⟨av, dv, rfl, _⟩ := k2.out.len
        obtain ⟨ab, db, rfl, _⟩ := k3.out.len
        obtain ⟨ae, de, rfl, _⟩ := k4.out.len
        go_wp2_with fail
        set_option maxRecDepth 100000 in go_still_tail 6, (by kernel_rfl)
        change wpList _ _ _ _ _ wr.drew
        have kd : New wr wr.drew := (Kp.refl _ _).drew
        have C1 := Lib.hid (Ch.out.new kd)
        have bS1 := heap_new kd bS0
        have bR1 := heap_new kd bR0
        have j1 := Lib.hid (k1.out.new (by omega) kd)
        have j2 := Lib.hid (k2.out.new (by omega) kd)
        have j3 := Lib.hid (k3.out.new (by omega) kd)
        have j4 := Lib.hid (k4.out.new (by omega) kd)
        have zz := kd.size
        replace g0 := (kd.cell (cell_lt g0) (fun f => f) _).trans g0
        replace g1 := (kd.cell (cell_lt g1) (fun f => f) _).trans g1
        replace g2 := (kd.cell (cell_lt g2) (fun f => f) _).trans g2
        replace g3 := (kd.cell (cell_lt g3) (fun f => f) _).trans g3
        replace g4 := (kd.cell (cell_lt g4) (fun f => f) _).trans g4
        replace g5 := (kd.cell (cell_lt g5) (fun f => f) _).trans g5
        replace g6 := (kd.cell (cell_lt g6) (fun f => f) _).trans g6
        replace g7 := (kd.cell (cell_lt g7) (fun f => f) _).trans g7
        replace g8 := (kd.cell (cell_lt g8) (fun f => f) _).trans g8
        replace g9 := (kd.cell (cell_lt g9) (fun f => f) _).trans g9
        replace g10 := (kd.cell (cell_lt g10) (fun f => f) _).trans g10
        generalize wr.drew = w1 at *
        clear kd Ch bS0 bR0 k1 k2 k3 k4 cS0 cS1 cS2
        obtain ⟨cS0, cS1, cS2⟩ := cells3 bS1
        go_wp2_with fail
        refine (stmt lo hi base nv na hb1 N ihh.out w1 _ _ M n' x _ _ _ _ d m hbz hez hvx.out hmd (by omega) C1.out.start j1.out j2.out j3.out j4.out hMs hn0 hns).mono ?_
        rintro e w2 ⟨ul2, uf2, n2, rfl, K, hm0, hm1⟩
        have bS2 := K.box C1.out.start bS1 (by decide) (by decide)
        have bR2 := K.box C1.out.start bR1 (by decide) (by decide)
        have C2 := Lib.hid (C1.out.trans K)
        have zk := K.size
        obtain ⟨⟨p2, q2, rfl⟩, pf2, qf2, rfl⟩ := K.lens
        clear K C1 j1 j2 j3 j4 bS1 bR1 cS0 cS1 cS2 g0 g1 g2 g3 g4 g5 g6 g7 g8 g9 g10
        generalize (M ++ cst x M.length (d : Int)) = MM at *
        have kz : Kp (fun i => i = w.heap.size) w2 (((w2.setCell ⟨w.heap.size, 0, none⟩ (.slice p2 MM.length q2)).setCell ⟨w.heap.size, 1, none⟩ (.slice pf2 MM.length qf2)).setCell ⟨w.heap.size, 2, none⟩ (.int .i64 n2)) := (((Kp.refl (fun i => i = w.heap.size) _).setCell (.inl rfl) _).setCell (.inl rfl) _).setCell (.inl rfl) _
        have bS3 := Lib.hid (setCell_heap (o := 2) (setCell_heap (o := 1) (setCell_heap (o := 0) bS2 (.slice p2 MM.length q2)) (.slice pf2 MM.length qf2)) (.int .i64 n2))
        have bR3 := Lib.hid ((kz.block _ (heap_lt bR2) (by omega)).trans bR2)
        have C3 := Lib.hid (C2.out.one bS2 kz (Nat.le_refl _) (by decide) (by decide))
        obtain ⟨cS0, cS1, cS2⟩ := cells3 bS2
        have fS := frozen_of_heap bS2
        have lS := heap_lt bS2
        clear kz bR2 C2
        go_wp2
        go_roundw
        case rel => exact ⟨j + 1, _, _, n2, by omega, by go_num, bS3.out, bR3.out, by rw [hcx.out]; exact C3.out, hm0, by omega⟩
        case measure => simp [intOf]; omega
      · have hall : l.take j = l := List.take_of_length_le (by omega)
        rw [hall] at Ch hn2
        have hge : l.length ≤ j := by omega
        clear hall hlt
        obtain ⟨⟨p1, q1, rfl⟩, pf1, qf1, rfl⟩ := Ch.out.lens
        generalize (L ++ csts l L.length (d : Int)) = MM at *
        obtain ⟨cS0, cS1, cS2⟩ := cells3 bS0
        obtain ⟨cR0, cR1, cR2⟩ := cells3 bR0
        have fR := frozen_of_heap bR0
        have lR := heap_lt bR0
        generalize hmm : MM.length = mm at *
        clear hmm
        go_wp2
        have hkz := setMany_kp (w.heap.size + 1) [.slice p1 mm q1, .slice pf1 mm qf1, .int .i64 n'] wr 0
        have hR := setMany_row [.slice p1 mm q1, .slice pf1 mm qf1, .int .i64 n'] bR0 rfl
        refine bodyPost_ret (results_cell_row rfl _ _ _ _ _ _ _ rfl hR Try.underlying104 rfl (by kernel_rfl)) rfl ?_
        exact ⟨_, _, _, rfl, Ch.out.one bR0 hkz (by omega) (by decide) (by decide), hn0, hn2⟩
end Go.Proofs.Ytckikiaockkmbaa.CmpM
