/- Copies of programs (spec): l2Copy. Condition: at most 2^20 nodes. -/
import Derived.Test.YtckikiaockkmbaaUCopyT
import Derived.Test.YtckikiaockkmbaaUInv
import Derived.Test.YtckikiaockkmbaaUP2
import Derived.Test.YtckikiaockkmbaaUP1
namespace Go.Proofs.Ytckikiaockkmbaa.CopyC
open Go.RowKit Kit Draw DrawX DrawB MarkC CopyT
set_option linter.unusedVariables false
def upd (v : Nat → Value) (i : Nat) (x : Value) : Nat → Value := fun j => if j = i then x else v j
/-- a row of the call's own whose block bears colour c1 or c2 -/
def Ow (w w1 : World) (v : Value) (xs : List Int) (col : Nat → Nat) (c1 c2 : Nat) : Prop := OwnF 1 encI w w1.heap.size 3 v xs ∧ ∀ b, v.ownBlock = some b → col b = c1 ∨ col b = c2
theorem Ow.keep {w w1 w' : World} {v : Value} {xs : List Int} {col col' : Nat → Nat} {c1 c2 : Nat} (h : Ow w w1 v xs col c1 c2) {S : Nat → Prop} (k : Kp S w w') (hcol : ∀ b, b < w.heap.size → col' b = col b) (hS : ∀ b, S b → b < w.heap.size → col b ≠ c1 ∧ col b ≠ c2) : Ow w' w1 v xs col' c1 c2 :=
  ⟨h.1.kp k fun b hb hs => by
    have h1 := (h.1.lt b hb).2
    have h2 := hS b hs h1
    rcases h.2 b hb with e | e
    · exact h2.1 e
    · exact h2.2 e, fun b hb => by rw [hcol b (h.1.lt b hb).2]; exact h.2 b hb⟩
theorem ownBlock_at (b n d : Nat) : (Value.slice (some ⟨b, 0, none⟩) n d).ownBlock = some b := by simp [Value.ownBlock]
theorem own_up {α : Type} {n : Nat} {enc : α → Nat → Value} {w : World} {base base' : Nat} {T : TypeId} {v : Value} {xs : List α} (h : OwnF n enc w base T v xs) (hb : ∀ b, v.ownBlock = some b → base' ≤ b) : OwnF n enc w base' T v xs := by
  rcases h.form with ⟨e1, e2⟩ | ⟨b, cap, cs, rfl, hb1, hb2, hb3, hh, hs, hc⟩
  · subst e1; subst e2; exact OwnF.nil _ _ _
  · exact OwnF.mk' hh (hb b (by simp [Value.ownBlock])) hb2 hb3 hs hc
theorem own_is {b c n d : Nat} (h : (Value.slice (some ⟨b, 0, none⟩) n d).ownBlock = some c) : c = b := by
  rw [ownBlock_at] at h; cases h; rfl
/-- statements of the call's own, all of whose blocks lie in lo .. hi - 1 -/
def SR (w : World) (lo hi : Nat) (v : Value) (l : List St) : Prop := hi ≤ w.heap.size ∧ lo ≤ hi ∧ ∃ w0, StsG w0 lo 74 v l ∧ w0.heap.size = hi ∧ ∀ k, lo ≤ k → k < hi → w.heap[k]? = w0.heap[k]?
theorem SR.of {w : World} {lo : Nat} {v : Value} {l : List St} (h : StsG w lo 74 v l) (hl : lo ≤ w.heap.size) : SR w lo w.heap.size v l := ⟨Nat.le_refl _, hl, w, h, rfl, fun _ _ _ => rfl⟩
theorem SR.kp {w w' : World} {lo hi : Nat} {v : Value} {l : List St} (h : SR w lo hi v l) {S : Nat → Prop} (k : Kp S w w') (hS : ∀ b, S b → b < lo ∨ hi ≤ b) : SR w' lo hi v l := by
  obtain ⟨h1, h0, w0, h2, h3, h4⟩ := h
  exact ⟨Nat.le_trans h1 k.size, h0, w0, h2, h3, fun b q1 q2 => (k.block b (by omega) (fun s => by have := hS b s; omega)).trans (h4 b q1 q2)⟩
theorem SR.new {w w' : World} {lo hi : Nat} {v : Value} {l : List St} (h : SR w lo hi v l) (k : New w w') : SR w' lo hi v l := h.kp k (fun _ f => f.elim)
/-- a row that leads on, seen in a later world in which its blocks are the same -/
theorem rowG_later {α β : Type} {n : Nat} {enc : α → Nat → Value} {M : Means α β} {w w' : World} {base : Nat} {T : TypeId} {v : Value} {l : List β} (h : RowG n enc M w base T v l) (hs : w.heap.size ≤ w'.heap.size) (hk : ∀ k, base ≤ k → k < w.heap.size → w'.heap[k]? = w.heap[k]?) : RowG n enc M w' base T v l := by
  obtain ⟨xs, h1, h2, h3⟩ := h
  refine ⟨xs, h1.keep fun b hb => hk b (h1.lt b hb).1 (h1.lt b hb).2, h2, fun i hi h' => ?_⟩
  obtain ⟨lo, hi2, p1, p2, p3, p4⟩ := h3 i hi h'
  exact ⟨lo, hi2, p1, by omega, p3, M.keep p4 fun b q1 q2 => hk b (by omega) (by omega)⟩
theorem SR.row {w : World} {lo hi : Nat} {v : Value} {l : List St} (h : SR w lo hi v l) : StsG w lo 74 v l := by
  obtain ⟨h1, h0, w0, h2, h3, h4⟩ := h
  exact rowG_later h2 (by omega) fun k q1 q2 => h4 k q1 (by omega)
theorem SR.reads {w : World} {lo hi : Nat} {v : Value} {l : List St} (h : SR w lo hi v l) : StsR w lo hi v l := by
  obtain ⟨h1, h0, w0, h2, h3, h4⟩ := h
  exact (h3 ▸ h2.sts).keep h4
theorem SR.len {w : World} {lo hi : Nat} {v : Value} {l : List St} (h : SR w lo hi v l) : ∃ a cap, v = .slice a l.length cap := by obtain ⟨a, cap, e, _⟩ := h.reads.len; exact ⟨a, cap, e⟩
/-- what number i has brought -/
def CoP (w1 : World) (pb : Nat) (a1 a2 a3 : Option Addr) (d1 d2 d3 : Nat) (xa xb : List Int) (l : List St) (col : Nat → Nat) (v : Nat → Value) (w : World) : Nat → Prop
  | 0 => (∃ b, v 0 = .slice (some ⟨b, 0, none⟩) 0 0) ∧ Ow w w1 (v 0) [] col 0 0
  | 1 => v 1 = .pointer (some ⟨pb, 0, none⟩)
  | 2 => v 2 = .slice a1 xa.length d1
  | 3 => (∃ a d, v 3 = .slice a xa.length d) ∧ Ow w w1 (v 3) xa col 3 0
  | 4 => (∃ b, v 4 = .slice (some ⟨b, 0, none⟩) 0 0) ∧ Ow w w1 (v 4) [] col 4 4
  | 5 => v 5 = .pointer (some ⟨pb, 1, none⟩)
  | 6 => v 6 = .slice a2 xb.length d2
  | 7 => (∃ a d, v 7 = .slice a xb.length d) ∧ Ow w w1 (v 7) xb col 7 4
  | 8 => v 8 = .pointer (some ⟨pb, 2, none⟩)
  | 9 => v 9 = .slice a3 l.length d3
  | 10 => ∃ lo hi, SR w lo hi (v 10) l ∧ w1.heap.size ≤ lo ∧ ∀ b, lo ≤ b → b < hi → col b = 10
  | 11 => v 11 = .agg #[v 3, v 7, v 10]
  | _ => True
def gate (l : Array Bool) : Nat → Bool | 0 => l.getD 3 true | 4 => l.getD 7 true | _ => false
structure Co (w1 : World) (pb : Nat) (a1 a2 a3 : Option Addr) (d1 d2 d3 : Nat) (xa xb : List Int) (l : List St) (col : Nat → Nat) (v : Nat → Value) (t : Array Bool) (w : World) : Prop where
  N : New w1 w
  f : ∀ j, j < 12 → t.getD j false = true → gate t j = false → CoP w1 pb a1 a2 a3 d1 d2 d3 xa xb l col v w j
  d : t.getD 11 false = true → t.getD 3 false = true ∧ t.getD 7 false = true ∧ t.getD 10 false = true
theorem set_yes {l : Array Bool} {i j : Nat} (h : l.getD j false = true) : (l.setIfInBounds i true).getD j false = true := by
  by_cases e : i = j
  · subst e
    have hj : i < l.size := by
      rcases Nat.lt_or_ge i l.size with q | q
      · exact q
      · rw [Array.getD, dif_neg (by omega)] at h; cases h
    simp [Array.getD, hj]
  · rw [getD_set_ne false e]; exact h
theorem both {l : Array Bool} {j : Nat} (h : l.getD j false = true) (h2 : l.getD j true = false) : False := by
  rcases Nat.lt_or_ge j l.size with q | q
  · rw [getD_same q, h] at h2; cases h2
  · rw [Array.getD, dif_neg (by omega)] at h2; cases h2
theorem no_of {l : Array Bool} {i j : Nat} (h : (l.setIfInBounds i true).getD j true = false) : i ≠ j ∧ l.getD j true = false := by
  by_cases e : i = j
  · subst e
    rcases Nat.lt_or_ge i l.size with q | q
    · simp [Array.getD, q] at h
    · rw [Array.getD, dif_neg (by simp; omega)] at h; cases h
  · exact ⟨e, by rwa [getD_set_ne true e] at h⟩
theorem Co.step {w1 : World} {pb : Nat} {a1 a2 a3 : Option Addr} {d1 d2 d3 : Nat} {xa xb : List Int} {l : List St} {col : Nat → Nat} {v : Nat → Value} {t : Array Bool} {w : World} (F : Co w1 pb a1 a2 a3 d1 d2 d3 xa xb l col v t w) (hl : t.size = 13) {i : Nat} (hi : i < 12) (hu : t.getD i true = false)
    (u : Value) (col' : Nat → Nat) {w' : World} {S : Nat → Prop} (k : Kp S w w') (hN : ∀ b, S b → w1.heap.size ≤ b) (hcol : ∀ b, b < w.heap.size → col' b = col b) (hS : ∀ b, S b → b < w.heap.size → i = 3 ∧ col b = 0 ∨ i = 7 ∧ col b = 4)
    (new : CoP w1 pb a1 a2 a3 d1 d2 d3 xa xb l col' (upd v i u) w' i) (h11 : i = 11 → t.getD 3 false = true ∧ t.getD 7 false = true ∧ t.getD 10 false = true) : Co w1 pb a1 a2 a3 d1 d2 d3 xa xb l col' (upd v i u) (t.setIfInBounds i true) w' := by
  refine ⟨New.on F.N k hN, fun j hj hjl hg => ?_, fun h => ?_⟩
  · by_cases e : j = i
    · subst e; exact new
    · have hjl2 : t.getD j false = true := by rwa [getD_set_ne false (fun q => e q.symm)] at hjl
      have hv : ∀ q, q ≠ i → upd v i u q = v q := fun q hq => if_neg hq
      match j, hj, hjl2, hg, e with
      | 0, hj, h1, hg, e => have hq := no_of (j := 3) hg; have h := F.f 0 hj h1 hq.2; show (∃ b, upd v i u 0 = _) ∧ Ow _ _ (upd v i u 0) _ _ _ _; rw [hv 0 e]; exact ⟨h.1, h.2.keep k hcol fun b hs hb => by have := hS b hs hb; omega⟩
      | 1, hj, h1, hg, e => have h := F.f 1 hj h1 rfl; show upd v i u 1 = _; rw [hv 1 e]; exact h
      | 2, hj, h1, hg, e => have h := F.f 2 hj h1 rfl; show upd v i u 2 = _; rw [hv 2 e]; exact h
      | 3, hj, h1, hg, e => have h := F.f 3 hj h1 rfl; show (∃ a d, upd v i u 3 = _) ∧ Ow _ _ (upd v i u 3) _ _ _ _; rw [hv 3 e]; exact ⟨h.1, h.2.keep k hcol fun b hs hb => by have := hS b hs hb; omega⟩
      | 4, hj, h1, hg, e => have hq := no_of (j := 7) hg; have h := F.f 4 hj h1 hq.2; show (∃ b, upd v i u 4 = _) ∧ Ow _ _ (upd v i u 4) _ _ _ _; rw [hv 4 e]; exact ⟨h.1, h.2.keep k hcol fun b hs hb => by have := hS b hs hb; omega⟩
      | 5, hj, h1, hg, e => have h := F.f 5 hj h1 rfl; show upd v i u 5 = _; rw [hv 5 e]; exact h
      | 6, hj, h1, hg, e => have h := F.f 6 hj h1 rfl; show upd v i u 6 = _; rw [hv 6 e]; exact h
      | 7, hj, h1, hg, e => have h := F.f 7 hj h1 rfl; show (∃ a d, upd v i u 7 = _) ∧ Ow _ _ (upd v i u 7) _ _ _ _; rw [hv 7 e]; exact ⟨h.1, h.2.keep k hcol fun b hs hb => by have := hS b hs hb; omega⟩
      | 8, hj, h1, hg, e => have h := F.f 8 hj h1 rfl; show upd v i u 8 = _; rw [hv 8 e]; exact h
      | 9, hj, h1, hg, e => have h := F.f 9 hj h1 rfl; show upd v i u 9 = _; rw [hv 9 e]; exact h
      | 10, hj, h1, hg, e =>
        obtain ⟨lo, hi, g1, g2, g3⟩ := F.f 10 hj h1 rfl
        have g0 := g1.1
        refine ⟨lo, hi, ?_, g2, fun b q1 q2 => (hcol b (by omega)).trans (g3 b q1 q2)⟩
        rw [hv 10 e]
        exact g1.kp k fun b hs => by
          rcases Nat.lt_or_ge b w.heap.size with q | q
          · have h2 := hS b hs q
            rcases Nat.lt_or_ge b lo with q2 | q2
            · exact .inl q2
            · rcases Nat.lt_or_ge b hi with q3 | q3
              · have := g3 b q2 q3; omega
              · exact .inr q3
          · right; omega
      | 11, hj, h1, hg, e =>
        have h := F.f 11 hj h1 rfl
        obtain ⟨q3, q7, q10⟩ := F.d h1
        show upd v i u 11 = .agg #[upd v i u 3, upd v i u 7, upd v i u 10]
        rw [hv 11 e, hv 3 (fun q => both q3 (q ▸ hu)), hv 7 (fun q => both q7 (q ▸ hu)), hv 10 (fun q => both q10 (q ▸ hu))]; exact h
  · by_cases e : i = 11
    · obtain ⟨q1, q2, q3⟩ := h11 e; exact ⟨set_yes q1, set_yes q2, set_yes q3⟩
    · rw [getD_set_ne false e] at h
      obtain ⟨q1, q2, q3⟩ := F.d h; exact ⟨set_yes q1, set_yes q2, set_yes q3⟩
theorem start_none (j : Nat) (hj : j < 12) : ¬ (Array.replicate 13 false).getD j false = true := by
  simp [Array.getD]
theorem row_rng2 {w : World} {base : Nat} {v : Value} {xs : List Int} (h : OwnF 1 encI w base 3 v xs) (hb : base ≤ w.heap.size) : ∃ lo hi, OwnR 1 encI w lo hi 3 v xs ∧ base ≤ lo ∧ lo ≤ hi ∧ hi ≤ w.heap.size ∧ (∀ p q, q ≤ w.heap.size → (∀ c, v.ownBlock = some c → c < p ∨ q ≤ c) → hi ≤ p ∨ q ≤ lo) ∧ ∀ c, (∀ b, v.ownBlock = some b → c ≠ b) → c < lo ∨ hi ≤ c := by
  rcases h.form with ⟨e1, e2⟩ | ⟨b, cap, cs, rfl, hb1, hb2, hb3, hh, hs, hc⟩
  · subst e1; subst e2
    exact ⟨w.heap.size, w.heap.size, ⟨OwnF.nil _ _ _, fun b hb => by simp [Value.ownBlock] at hb⟩, hb, Nat.le_refl _, Nat.le_refl _, fun p q hq _ => .inr hq, fun c _ => by omega⟩
  · have hl := heap_lt hh
    exact ⟨b, b + 1, ⟨own_up h fun c hc => by rw [own_is hc]; exact Nat.le_refl _, fun c hc => by rw [own_is hc]; exact Nat.lt_succ_self _⟩, hb1, by omega, by omega, fun p q _ hc => by have := hc b (ownBlock_at _ _ _); omega, fun c hc => by have := hc b (ownBlock_at _ _ _); omega⟩
/-- a program of the call's own: labels and statements apart -/
def PO (w : World) (base : Nat) (va vb vc : Value) (xa xb : List Int) (l : List St) : Prop := ∃ l1 h1 l2 h2 l3 h3, OwnR 1 encI w l1 h1 3 va xa ∧ OwnR 1 encI w l2 h2 3 vb xb ∧ SR w l3 h3 vc l ∧ base ≤ l1 ∧ base ≤ l2 ∧ base ≤ l3 ∧ h1 ≤ w.heap.size ∧ h2 ≤ w.heap.size ∧ h3 ≤ w.heap.size ∧ l1 ≤ h1 ∧ l2 ≤ h2 ∧ l3 ≤ h3 ∧ (h1 ≤ l2 ∨ h2 ≤ l1) ∧ (h1 ≤ l3 ∨ h3 ≤ l1) ∧ (h2 ≤ l3 ∨ h3 ≤ l2)
def GotP (w : World) (xa xb : List Int) (l : List St) (e : Ending) (w' : World) : Prop := ∃ (a1 a2 a3 : Option Addr) (d1 d2 d3 : Nat), e = .returned (.agg #[.slice a1 xa.length d1, .slice a2 xb.length d2, .slice a3 l.length d3]) ∧ New w w' ∧ PO w' w.heap.size (.slice a1 xa.length d1) (.slice a2 xb.length d2) (.slice a3 l.length d3) xa xb l
def CoI (w1 : World) (pb : Nat) (a1 a2 a3 : Option Addr) (d1 d2 d3 : Nat) (xa xb : List Int) (l : List St) (t : Array Bool) (a : Act) (w : World) : Prop := ∃ (v : Nat → Value) (col : Nat → Nat), a = { tmps := #[.agg #[.slice a1 xa.length d1, .slice a2 xb.length d2, .slice a3 l.length d3], .pointer (some ⟨pb, 0, none⟩), .pointer (some ⟨pb + 1, 0, none⟩), v 0, v 1, v 2, v 3, v 4, v 5, v 6, v 7, v 8, v 9, v 10, v 11], defers := [] } ∧ Co w1 pb a1 a2 a3 d1 d2 d3 xa xb l col v t w
set_option maxHeartbeats 16000000 in
set_option maxRecDepth 100000 in
theorem l2Copy (w : World) (lo hi : Nat) (a1 a2 a3 : Option Addr) (d1 d2 d3 : Nat) (xa xb : List Int) (l : List St) (sa : IntsR w lo hi (.slice a1 xa.length d1) xa) (sb : IntsR w lo hi (.slice a2 xb.length d2) xb) (sc : StsR w lo hi (.slice a3 l.length d3) l) (hh : hi ≤ w.heap.size) (hxa : xa.length ≤ 1048576) (hxb : xb.length ≤ 1048576) (hx : St.sizes l ≤ 1048576) :
    Calls Try.prog 128 #[.agg #[.slice a1 xa.length d1, .slice a2 xb.length d2, .slice a3 l.length d3]] w (GotP w xa xb l) := by
  go_enter Try.func128, Try.ntmps128
  go_upto_region 1 with fail
  have N0 : New w ((w.alloc (.cells #[.slice a1 xa.length d1, .slice a2 xb.length d2, .slice a3 l.length d3] 37)).alloc (.cells #[.slice none 0 0, .slice none 0 0, .slice none 0 0] 37)) := ((Kp.refl _ _).alloc _).alloc _
  have bP : ((w.alloc (.cells #[.slice a1 xa.length d1, .slice a2 xb.length d2, .slice a3 l.length d3] 37)).alloc (.cells #[.slice none 0 0, .slice none 0 0, .slice none 0 0] 37)).heap[w.heap.size]? = some (.cells #[.slice a1 xa.length d1, .slice a2 xb.length d2, .slice a3 l.length d3] 37) := heap_old (alloc_heap _ _)
  have bR : ((w.alloc (.cells #[.slice a1 xa.length d1, .slice a2 xb.length d2, .slice a3 l.length d3] 37)).alloc (.cells #[.slice none 0 0, .slice none 0 0, .slice none 0 0] 37)).heap[w.heap.size + 1]? = some (.cells #[.slice none 0 0, .slice none 0 0, .slice none 0 0] 37) := heap_at (by simp)
  have z0 : w.heap.size + 1 < ((w.alloc (.cells #[.slice a1 xa.length d1, .slice a2 xb.length d2, .slice a3 l.length d3] 37)).alloc (.cells #[.slice none 0 0, .slice none 0 0, .slice none 0 0] 37)).heap.size := by simp
  generalize ((w.alloc (.cells #[.slice a1 xa.length d1, .slice a2 xb.length d2, .slice a3 l.length d3] 37)).alloc (.cells #[.slice none 0 0, .slice none 0 0, .slice none 0 0] 37)) = w0 at *
  refine wp_region_any (by kernel_rfl) ?_
  have hdr : New w0 w0.drew := (Kp.refl _ _).drew
  change wpAny _ _ _ _ _ _ _ w0.drew
  generalize w0.drew = w1 at *
  have bP1 := Lib.hid (heap_new hdr bP)
  have bR1 := Lib.hid (heap_new hdr bR)
  have sa1 := Lib.hid ((sa.new hh N0).new (by have := N0.size; omega) hdr)
  have sb1 := Lib.hid ((sb.new hh N0).new (by have := N0.size; omega) hdr)
  have sc1 := Lib.hid ((sc.new hh N0).new (by have := N0.size; omega) hdr)
  have hh1 : hi ≤ w1.heap.size := by have := N0.size; have := hdr.size; omega
  have z1 : w.heap.size + 1 < w1.heap.size := by have := hdr.size; omega
  have Nw1 : New w w1 := N0.trans hdr
  clear sa sb sc bP bR
  refine any_inv (n := 12) (I := CoI w1 w.heap.size a1 a2 a3 d1 d2 d3 xa xb l) (by kernel_rfl) (by kernel_rfl) (by kernel_rfl) ?step ?last _ _ _ _ (by kernel_rfl) (by kernel_rfl) (by kernel_rfl) ?start
  case start => exact ⟨fun _ => undef, fun _ => 0, rfl, Kp.refl _ _, fun j hj h => absurd h (start_none j hj), fun h => absurd h (by decide)⟩
  case step =>
    rintro i listed a w2 hi hs ⟨v, col, rfl, F⟩ hu hall
    have hF := Lib.hid F
    have zN := F.N.size
    clear F
    match i, hi, hu, hall with
    | 0, hi, hu, hall =>
      refine wpOp_step rfl (fun K hK0 => ?_)
      have hK := Lib.hid hK0
      clear hK0
      go_simp
      exact hK.out _ _ ⟨upd v 0 (.slice (some ⟨w2.heap.size, 0, none⟩) 0 0), fun b => if b < w2.heap.size then col b else 0, rfl, hF.out.step hs hi hu _ _ ((Kp.refl (fun _ => False) w2).alloc _) (fun _ f => f.elim) (fun b hb => if_pos hb) (fun _ f => f.elim) ⟨⟨_, rfl⟩, OwnF.empty w2 3 zN, fun b hb => .inl (by obtain rfl := own_is hb; exact if_neg (Nat.lt_irrefl _))⟩ (fun e => absurd e (by decide))⟩
    | 4, hi, hu, hall =>
      refine wpOp_step rfl (fun K hK0 => ?_)
      have hK := Lib.hid hK0
      clear hK0
      go_simp
      exact hK.out _ _ ⟨upd v 4 (.slice (some ⟨w2.heap.size, 0, none⟩) 0 0), fun b => if b < w2.heap.size then col b else 4, rfl, hF.out.step hs hi hu _ _ ((Kp.refl (fun _ => False) w2).alloc _) (fun _ f => f.elim) (fun b hb => if_pos hb) (fun _ f => f.elim) ⟨⟨_, rfl⟩, OwnF.empty w2 3 zN, fun b hb => .inl (by obtain rfl := own_is hb; exact if_neg (Nat.lt_irrefl _))⟩ (fun e => absurd e (by decide))⟩
    | 1, hi, hu, hall =>
      refine wpOp_step rfl (fun K hK0 => ?_)
      have hK := Lib.hid hK0
      clear hK0
      go_simp
      exact hK.out _ _ ⟨upd v 1 (.pointer (some ⟨w.heap.size, 0, none⟩)), col, rfl, hF.out.step hs hi hu _ _ (Kp.refl (fun _ => False) w2) (fun _ f => f.elim) (fun b hb => rfl) (fun _ f => f.elim) rfl (fun e => absurd e (by decide))⟩
    | 5, hi, hu, hall =>
      refine wpOp_step rfl (fun K hK0 => ?_)
      have hK := Lib.hid hK0
      clear hK0
      go_simp
      exact hK.out _ _ ⟨upd v 5 (.pointer (some ⟨w.heap.size, 1, none⟩)), col, rfl, hF.out.step hs hi hu _ _ (Kp.refl (fun _ => False) w2) (fun _ f => f.elim) (fun b hb => rfl) (fun _ f => f.elim) rfl (fun e => absurd e (by decide))⟩
    | 8, hi, hu, hall =>
      refine wpOp_step rfl (fun K hK0 => ?_)
      have hK := Lib.hid hK0
      clear hK0
      go_simp
      exact hK.out _ _ ⟨upd v 8 (.pointer (some ⟨w.heap.size, 2, none⟩)), col, rfl, hF.out.step hs hi hu _ _ (Kp.refl (fun _ => False) w2) (fun _ f => f.elim) (fun b hb => rfl) (fun _ f => f.elim) rfl (fun e => absurd e (by decide))⟩
    | 2, hi, hu, hall =>
      have e1 : v 1 = .pointer (some ⟨w.heap.size, 0, none⟩) := hF.out.f 1 (by decide) (hall 1 (by kernel_rfl)) rfl
      have cP := cell_of_heap (heap_new hF.out.N bP1.out) 0
      refine wpOp_step rfl (fun K hK0 => ?_)
      have hK := Lib.hid hK0
      clear hK0
      simp only [e1]
      go_simp
      exact hK.out _ _ ⟨upd v 2 (.slice a1 xa.length d1), col, (by simp [upd, e1]), hF.out.step hs hi hu _ _ (Kp.refl (fun _ => False) w2) (fun _ f => f.elim) (fun b hb => rfl) (fun _ f => f.elim) rfl (fun e => absurd e (by decide))⟩
    | 6, hi, hu, hall =>
      have e1 : v 5 = .pointer (some ⟨w.heap.size, 1, none⟩) := hF.out.f 5 (by decide) (hall 5 (by kernel_rfl)) rfl
      have cP := cell_of_heap (heap_new hF.out.N bP1.out) 1
      refine wpOp_step rfl (fun K hK0 => ?_)
      have hK := Lib.hid hK0
      clear hK0
      simp only [e1]
      go_simp
      exact hK.out _ _ ⟨upd v 6 (.slice a2 xb.length d2), col, (by simp [upd, e1]), hF.out.step hs hi hu _ _ (Kp.refl (fun _ => False) w2) (fun _ f => f.elim) (fun b hb => rfl) (fun _ f => f.elim) rfl (fun e => absurd e (by decide))⟩
    | 9, hi, hu, hall =>
      have e1 : v 8 = .pointer (some ⟨w.heap.size, 2, none⟩) := hF.out.f 8 (by decide) (hall 8 (by kernel_rfl)) rfl
      have cP := cell_of_heap (heap_new hF.out.N bP1.out) 2
      refine wpOp_step rfl (fun K hK0 => ?_)
      have hK := Lib.hid hK0
      clear hK0
      simp only [e1]
      go_simp
      exact hK.out _ _ ⟨upd v 9 (.slice a3 l.length d3), col, (by simp [upd, e1]), hF.out.step hs hi hu _ _ (Kp.refl (fun _ => False) w2) (fun _ f => f.elim) (fun b hb => rfl) (fun _ f => f.elim) rfl (fun e => absurd e (by decide))⟩
    | 3, hi, hu, hall =>
      obtain ⟨⟨b, e0⟩, hO, hc⟩ := hF.out.f 0 (by decide) (hall 0 (by kernel_rfl)) (by simpa [gate] using hu)
      rw [e0] at hO hc
      have hcb := hc b (by simp [Value.ownBlock])
      have hbl2 := hO.lt b (by simp [Value.ownBlock])
      have e2 : v 2 = .slice a1 xa.length d1 := hF.out.f 2 (by decide) (hall 2 (by kernel_rfl)) rfl
      simp only [e0, e2]
      refine wpOp_step rfl (fun K hK0 => ?_)
      have hK := Lib.hid hK0
      clear hK0
      refine step_pushes rfl (.tmp 3) (.tmp 5) 34 rfl w1.heap.size 3 _ _ Try.underlying34 LawF.infoI rfl (by decide) (.slice (some ⟨b, 0, none⟩) 0 0) [] rfl hO (.slice a1 xa.length d1) xa rfl (sa1.out.new hh1 hF.out.N) (fun y _ _ => rfl) (by simp; omega) (by simp; omega) zN ?_
      intro v' w3 hv hk ha
      rw [List.nil_append] at hv
      obtain ⟨a4, d4, e4, _⟩ := hv.reads.len
      exact hK.out _ _ ⟨upd v 3 v', fun b => if b < w2.heap.size then col b else 3, (by simp [upd, e0, e2]; rfl), hF.out.step hs hi hu _ _ hk (fun c q => by obtain rfl := own_is q; exact hbl2.1) (fun b hb => if_pos hb) (fun c q _ => by obtain rfl := own_is q; have := hcb; omega) ⟨⟨a4, d4, e4⟩, hv, fun c q => by
        rcases ha with e | e
        · right
          rw [show upd v 3 v' 3 = v' from rfl, e] at q
          obtain rfl := own_is q
          show (if c < w2.heap.size then col c else 3) = _
          rw [if_pos hbl2.2]; omega
        · left
          rw [show upd v 3 v' 3 = v' from rfl, e] at q
          cases q
          exact if_neg (Nat.lt_irrefl _)⟩ (fun e => absurd e (by decide))⟩
    | 7, hi, hu, hall =>
      obtain ⟨⟨b, e0⟩, hO, hc⟩ := hF.out.f 4 (by decide) (hall 4 (by kernel_rfl)) (by simpa [gate] using hu)
      rw [e0] at hO hc
      have hcb := hc b (by simp [Value.ownBlock])
      have hbl2 := hO.lt b (by simp [Value.ownBlock])
      have e2 : v 6 = .slice a2 xb.length d2 := hF.out.f 6 (by decide) (hall 6 (by kernel_rfl)) rfl
      simp only [e0, e2]
      refine wpOp_step rfl (fun K hK0 => ?_)
      have hK := Lib.hid hK0
      clear hK0
      refine step_pushes rfl (.tmp 7) (.tmp 9) 34 rfl w1.heap.size 3 _ _ Try.underlying34 LawF.infoI rfl (by decide) (.slice (some ⟨b, 0, none⟩) 0 0) [] rfl hO (.slice a2 xb.length d2) xb rfl (sb1.out.new hh1 hF.out.N) (fun y _ _ => rfl) (by simp; omega) (by simp; omega) zN ?_
      intro v' w3 hv hk ha
      rw [List.nil_append] at hv
      obtain ⟨a4, d4, e4, _⟩ := hv.reads.len
      exact hK.out _ _ ⟨upd v 7 v', fun b => if b < w2.heap.size then col b else 7, (by simp [upd, e0, e2]; rfl), hF.out.step hs hi hu _ _ hk (fun c q => by obtain rfl := own_is q; exact hbl2.1) (fun b hb => if_pos hb) (fun c q _ => by obtain rfl := own_is q; have := hcb; omega) ⟨⟨a4, d4, e4⟩, hv, fun c q => by
        rcases ha with e | e
        · right
          rw [show upd v 7 v' 7 = v' from rfl, e] at q
          obtain rfl := own_is q
          show (if c < w2.heap.size then col c else 7) = _
          rw [if_pos hbl2.2]; omega
        · left
          rw [show upd v 7 v' 7 = v' from rfl, e] at q
          cases q
          exact if_neg (Nat.lt_irrefl _)⟩ (fun e => absurd e (by decide))⟩
    | 10, hi, hu, hall =>
      have e1 : v 9 = .slice a3 l.length d3 := hF.out.f 9 (by decide) (hall 9 (by kernel_rfl)) rfl
      refine wpOp_step rfl (fun K hK0 => ?_)
      have hK := Lib.hid hK0
      clear hK0
      simp only [e1]
      go_simp
      refine (copyS _ w2 lo _ _ l (Nat.lt_succ_self _) hx (sc1.out.new hh1 hF.out.N) (by omega)).mono ?_
      rintro e w3 ⟨a4, d4, rfl, n3, hG⟩
      exact hK.out _ _ ⟨upd v 10 (.slice a4 l.length d4), fun b => if b < w2.heap.size then col b else 10, (by simp [upd, e1]), hF.out.step hs hi hu _ _ n3 (fun _ f => f.elim) (fun b hb => if_pos hb) (fun _ f => f.elim) ⟨_, _, SR.of hG n3.size, zN, fun b q1 q2 => if_neg (by omega)⟩ (fun e => absurd e (by decide))⟩
    | 11, hi, hu, hall =>
      obtain ⟨⟨g1, t1, e3⟩, -⟩ := hF.out.f 3 (by decide) (hall 3 (by kernel_rfl)) rfl
      obtain ⟨⟨g2, t2, e7⟩, -⟩ := hF.out.f 7 (by decide) (hall 7 (by kernel_rfl)) rfl
      obtain ⟨p3, h3, s3, -⟩ := hF.out.f 10 (by decide) (hall 10 (by kernel_rfl)) rfl
      obtain ⟨g3, t3, e10⟩ := s3.len
      refine wpOp_step rfl (fun K hK0 => ?_)
      have hK := Lib.hid hK0
      clear hK0
      simp only [e3, e7, e10]
      go_simp
      exact hK.out _ _ ⟨upd v 11 (.agg #[.slice g1 xa.length t1, .slice g2 xb.length t2, .slice g3 l.length t3]), col, (by simp [upd, e3, e7, e10]), hF.out.step hs hi hu _ _ (Kp.refl (fun _ => False) w2) (fun _ f => f.elim) (fun b hb => rfl) (fun _ f => f.elim) (by show _ = Value.agg #[upd v 11 _ 3, upd v 11 _ 7, upd v 11 _ 10]; simp [upd, e3, e7, e10]) (fun _ => ⟨hall 3 (by kernel_rfl), hall 7 (by kernel_rfl), hall 10 (by kernel_rfl)⟩)⟩
  case last =>
    rintro listed a w2 ⟨v, col, rfl, F⟩ hall
    obtain ⟨⟨g1, t1, e3⟩, o3, c3⟩ := F.f 3 (by decide) (hall 3 (by decide)) rfl
    obtain ⟨⟨g2, t2, e7⟩, o7, c7⟩ := F.f 7 (by decide) (hall 7 (by decide)) rfl
    obtain ⟨l3, h3, s3, q3, c10⟩ := F.f 10 (by decide) (hall 10 (by decide)) rfl
    have e11 : v 11 = .agg #[v 3, v 7, v 10] := F.f 11 (by decide) (hall 11 (by decide)) rfl
    obtain ⟨g3, t3, e10⟩ := s3.len
    have hN := F.N
    have zN := hN.size
    have z3 := s3.1
    have z3b := s3.2.1
    obtain ⟨l1, h1, oA, qa1, qa2, qa3, qa4, qa5⟩ := row_rng2 o3 zN
    obtain ⟨l2, h2, oB, qb1, qb2, qb3, qb4, qb5⟩ := row_rng2 o7 zN
    have k12 : h1 ≤ l2 ∨ h2 ≤ l1 := qa4 l2 h2 qb3 fun c hc => qb5 c fun b hb e => by subst e; have := c3 c hc; have := c7 c hb; omega
    have k13 : h1 ≤ l3 ∨ h3 ≤ l1 := qa4 l3 h3 z3 fun c hc => by
      rcases Nat.lt_or_ge c l3 with q | q
      · exact .inl q
      · rcases Nat.lt_or_ge c h3 with q2 | q2
        · have := c3 c hc; have := c10 c q q2; omega
        · exact .inr q2
    have k23 : h2 ≤ l3 ∨ h3 ≤ l2 := qb4 l3 h3 z3 fun c hc => by
      rcases Nat.lt_or_ge c l3 with q | q
      · exact .inl q
      · rcases Nat.lt_or_ge c h3 with q2 | q2
        · have := c7 c hc; have := c10 c q q2; omega
        · exact .inr q2
    have bR2 := heap_new hN bR1.out
    rw [e3] at oA e11
    rw [e7] at oB e11
    rw [e10] at s3 e11
    have hA := Lib.hid oA
    have hB := Lib.hid oB
    have hC := Lib.hid s3
    have hNw := Lib.hid (Nw1.trans hN)
    have e11h := Lib.hid e11
    clear F oA oB s3 o3 o7 c3 c7 c10 qa4 qa5 qb4 qb5 hall e3 e7 e10 e11 hN hdr bP1 sa1 sb1 sc1 bR1
    simp only [List.drop_succ_cons, List.drop_zero]
    rw [e11h.out]
    have rf := frozen_of_heap bR2
    have rl := heap_lt bR2
    obtain ⟨r0, r1, r2⟩ := cells3 bR2
    go_wp2
    have hkz := setMany_kp (w.heap.size + 1) [.slice g1 xa.length t1, .slice g2 xb.length t2, .slice g3 l.length t3] w2 0
    have zs := setMany_size (w.heap.size + 1) [.slice g1 xa.length t1, .slice g2 xb.length t2, .slice g3 l.length t3] w2 0
    have hR := setMany_row [.slice g1 xa.length t1, .slice g2 xb.length t2, .slice g3 l.length t3] bR2 rfl
    have f1 : h1 ≤ (setMany w2 (w.heap.size + 1) 0 [.slice g1 xa.length t1, .slice g2 xb.length t2, .slice g3 l.length t3]).heap.size := by omega
    have f2 : h2 ≤ (setMany w2 (w.heap.size + 1) 0 [.slice g1 xa.length t1, .slice g2 xb.length t2, .slice g3 l.length t3]).heap.size := by omega
    have f3 : h3 ≤ (setMany w2 (w.heap.size + 1) 0 [.slice g1 xa.length t1, .slice g2 xb.length t2, .slice g3 l.length t3]).heap.size := by omega
    exact bodyPost_ret (results_cell_row rfl _ _ _ _ _ _ _ rfl hR Try.underlying37 rfl (by kernel_rfl)) rfl ⟨_, _, _, _, _, _, rfl, New.one hNw.out hkz (by omega), l1, h1, l2, h2, l3, h3, hA.out.kp hkz (fun b e => by omega), hB.out.kp hkz (fun b e => by omega), hC.out.kp hkz (fun b e => by omega), by omega, by omega, by omega, f1, f2, f3, by omega, by omega, by omega, k12, k13, k23⟩
end Go.Proofs.Ytckikiaockkmbaa.CopyC
