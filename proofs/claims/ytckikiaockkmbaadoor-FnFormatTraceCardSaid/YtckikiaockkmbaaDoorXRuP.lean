/- What a run of a valid block by spec keeps: the memory fits, the events are a row, few enough. Conditions: the block is valid, the memory fits; bounds on lengths. -/
import Derived.Test.YtckikiaockkmbaaDoorXEvS
import Derived.Test.YtckikiaockkmbaaDoorXEachP
import Derived.Test.YtckikiaockkmbaaDoorXDrawM
import Derived.Test.YtckikiaockkmbaaDoorXPartC
namespace Go.Proofs.YtckikiaockkmbaaDoor.RuP
open Go.RowKit Kit Val Step EvP MarkC
set_option linter.unusedVariables false
/-- how many events a block brings at most -/
def bnd (d n : Nat) : Nat := 3 ^ d * 16 * n
theorem bnd_add (d a b : Nat) : bnd d (a + b) = bnd d a + bnd d b := Nat.mul_add _ _ _
theorem bnd_succ (d n : Nat) (h : 1 ≤ d) : bnd d n = 3 * bnd (d - 1) n := by
  obtain ⟨e, rfl⟩ : ∃ e, d = e + 1 := ⟨d - 1, by omega⟩
  simp only [bnd, Nat.add_sub_cancel, Nat.pow_succ, Nat.mul_comm, Nat.mul_left_comm, Nat.mul_assoc]
theorem bnd_mono (d : Nat) {n m : Nat} (h : n ≤ m) : bnd d n ≤ bnd d m := Nat.mul_le_mul_left _ h
theorem bnd_one (d : Nat) : 16 ≤ bnd d 1 := by
  have := Nat.one_le_pow d 3 (by decide)
  simp only [bnd]; omega
theorem bnd_st (d : Nat) (x : St) (h : 1 ≤ d) : 16 + 3 * bnd (d - 1) (stsN x.body) ≤ bnd d (stN x) ∧ 16 + 3 * bnd (d - 1) (stsN x.els) ≤ bnd d (stN x) := by
  have e := stN_eq x
  have h1 := bnd_mono d (show 1 + stsN x.body ≤ stN x by omega)
  have h2 := bnd_mono d (show 1 + stsN x.els ≤ stN x by omega)
  rw [bnd_add, bnd_succ d (stsN x.body) h] at h1
  rw [bnd_add, bnd_succ d (stsN x.els) h] at h2
  have := bnd_one d
  omega
/-- the kinds of a valid statement -/
theorem kinds {nv na d : Nat} {x : St} (h : stB nv na x d = true) :
    ((x.kind = 1 ∨ x.kind = 5) ∧ 0 ≤ x.target ∧ x.target < nv ∧ right nv na x.value = true) ∨ (x.kind = 2 ∧ 0 ≤ x.target ∧ x.target < na ∧ right nv na x.index = true ∧ right nv na x.value = true) ∨ (x.kind = 3 ∧ right nv na x.value = true) ∨ (x.kind = 4 ∧ 1 ≤ x.count ∧ x.count ≤ 3) := by
  obtain ⟨k, t, i, v, c, b, e⟩ := x
  simp only [stB, Bool.and_eq_true, decide_eq_true_eq] at h
  obtain ⟨⟨hd, hp⟩, hk⟩ := h
  dsimp only [St.kind, St.target, St.value, St.index, St.count]
  split at hk
  · simp only [Bool.and_eq_true, decide_eq_true_eq] at hk
    exact .inl ⟨by assumption, hk.1.1, hk.1.2, hk.2⟩
  · split at hk
    · simp only [Bool.and_eq_true, decide_eq_true_eq] at hk
      exact .inr (.inl ⟨by assumption, hk.1.1.1.1, hk.1.1.1.2, hk.1.1.2, hk.2⟩)
    · split at hk
      · simp only [Bool.and_eq_true] at hk
        exact .inr (.inr (.inl ⟨by assumption, hk.1.1⟩))
      · split at hk
        · subst k
          rw [partsB, if_pos (show (St.node 4 t i v c b e).kind = 4 from rfl)] at hp
          simp only [Bool.and_eq_true, decide_eq_true_eq] at hp
          exact .inr (.inr (.inr ⟨rfl, hp.1.1.1.2, hp.1.1.2⟩))
        · cases hk
theorem Fit.setV {nv na : Nat} {ya : List Int} {yb : List (List Int)} (h : Fit nv na ya yb) (t : Nat) (x : Int) (h0 : 0 ≤ x) (h1 : x ≤ 255) : Fit nv na (ya.set t x) yb := by
  refine ⟨by simp [h.vl], fun i hi => ?_, h.al, h.ar, h.ax⟩
  rw [List.getElem_set]
  split
  · exact ⟨h0, h1⟩
  · exact h.vr i (by simpa using hi)
theorem Fit.setA {nv na : Nat} {ya : List Int} {yb : List (List Int)} (h : Fit nv na ya yb) (t r : Nat) (ht : t < yb.length) (x : Int) (h0 : 0 ≤ x) (h1 : x ≤ 255) : Fit nv na ya (yb.set t (yb[t].set r x)) := by
  refine ⟨h.vl, h.vr, by simp [h.al], fun i hi => ?_, fun i hi j hj => ?_⟩
  · rw [List.getElem_set]
    split
    · simp [h.ar t ht]
    · exact h.ar i (by simpa using hi)
  · have hi' : i < yb.length := by simpa using hi
    by_cases e : t = i
    · subst e
      simp only [List.getElem_set_self] at hj ⊢
      rw [List.getElem_set]
      split
      · exact ⟨h0, h1⟩
      · exact h.ax t ht j (by simpa using hj)
    · simp only [List.getElem_set_ne e] at hj ⊢
      exact h.ax i hi' j hj
/-- what is true on the way of a run -/
def RunQ (w : World) (base lm hm nv na : Nat) (va vb ev : Value) (B : Nat) (ev' : Value) (wr : World) : Prop := ∃ ya yb l, Kp (fun c => (lm ≤ c ∧ c < hm) ∨ ev.ownBlock = some c) w wr ∧ MemO wr lm hm va vb ya yb ∧ Fit nv na ya yb ∧ OwnF 2 encE wr base 54 ev' l ∧ Grew w ev ev' ∧ l.length ≤ B
section
variable {w wr w2 : World} {base lm hm nv na B B2 : Nat} {va vb ev ev1 ev2 : Value}
theorem RunQ.size (h : RunQ w base lm hm nv na va vb ev B ev1 wr) : w.heap.size ≤ wr.heap.size := by obtain ⟨ya, yb, l, K, _⟩ := h; exact K.size
theorem RunQ.start (h : RunQ w base lm hm nv na va vb ev B ev1 wr) : RunQ wr base lm hm nv na va vb ev1 B ev1 wr := by
  obtain ⟨ya, yb, l, K, M, F, E, g, hl⟩ := h
  exact ⟨ya, yb, l, Kp.refl _ _, M, F, E, Grew.refl _ _, hl⟩
theorem RunQ.trans (h : RunQ w base lm hm nv na va vb ev B ev1 wr) (k : RunQ wr base lm hm nv na va vb ev1 B2 ev2 w2) : RunQ w base lm hm nv na va vb ev B2 ev2 w2 := by
  obtain ⟨ya, yb, l, K, M, F, E, g, hl⟩ := h
  obtain ⟨ya', yb', l', K', M', F', E', g', hl'⟩ := k
  exact ⟨ya', yb', l', Kp.grew K g K', M', F', E', g.trans g' K.size, hl'⟩
theorem RunQ.le (h : RunQ w base lm hm nv na va vb ev B ev1 wr) (k : B ≤ B2) : RunQ w base lm hm nv na va vb ev B2 ev1 wr := by
  obtain ⟨ya, yb, l, K, M, F, E, g, hl⟩ := h
  exact ⟨ya, yb, l, K, M, F, E, g, by omega⟩
theorem RunQ.new (h : RunQ w base lm hm nv na va vb ev B ev1 wr) (hh : hm ≤ wr.heap.size) (k : New wr w2) : RunQ w base lm hm nv na va vb ev B ev1 w2 := by
  obtain ⟨ya, yb, l, K, M, F, E, g, hl⟩ := h
  exact ⟨ya, yb, l, K.nw' k, M.new hh k, F, E.new k, g, hl⟩
/-- a box of another type stands -/
theorem RunQ.box (h : RunQ wr base lm hm nv na va vb ev1 B ev2 w2) (h0 : RunQ wr base lm hm nv na va vb ev1 B2 ev1 wr) {c : Nat} {cs : Array Value} {T' : TypeId} {f : Nat × Nat} (hc : wr.heap[c]? = some (.cells cs T' f)) (hT : 54 ≠ T') (hb : hm ≤ c) : w2.heap[c]? = some (.cells cs T' f) := by
  obtain ⟨ya, yb, l, K, M, F, E, g, hl⟩ := h
  obtain ⟨_, _, l0, _, _, _, E0, _, _⟩ := h0
  refine (K.block c (heap_lt hc) fun q => ?_).trans hc
  rcases q with q | q
  · omega
  · exact OwnF.box E0 hc hT q
theorem RunQ.low (h : RunQ w base lm hm nv na va vb ev B ev1 wr) : ∀ b, ev1.ownBlock = some b → base ≤ b := by
  obtain ⟨ya, yb, l, K, M, F, E, g, hl⟩ := h
  exact fun b hb => (E.lt b hb).1
theorem RunQ.stmts {lo hi : Nat} {s : Value} {ks : List St} (h : RunQ w base lm hm nv na va vb ev B ev1 wr) (h0 : ∀ b, ev.ownBlock = some b → base ≤ b) (h1 : hi ≤ lm) (h2 : hi ≤ base) (h3 : hi ≤ w.heap.size) (hs : StsR w lo hi s ks) : StsR wr lo hi s ks := by
  obtain ⟨ya, yb, l, K, _⟩ := h
  exact hs.kp K h3 fun k q => q.elim (fun q => .inr (by omega)) (fun q => .inr (by have := h0 k q; omega))
theorem RunQ.kids {lo hi : Nat} {s : Value} {ks : List Ex} (h : RunQ w base lm hm nv na va vb ev B ev1 wr) (h0 : ∀ b, ev.ownBlock = some b → base ≤ b) (h1 : hi ≤ lm) (h2 : hi ≤ base) (h3 : hi ≤ w.heap.size) (hs : KidsR w lo hi s ks) : KidsR wr lo hi s ks := by
  obtain ⟨ya, yb, l, K, _⟩ := h
  exact hs.kp K h3 fun k q => q.elim (fun q => .inr (by omega)) (fun q => .inr (by have := h0 k q; omega))
/-- an event is appended -/
theorem RunQ.push {l : List Ev} (h : RunQ w base lm hm nv na va vb ev B ev1 wr) (hz : hm ≤ base) (hz2 : hm ≤ wr.heap.size) {e : Ev} (hl : l.length ≤ B) (hE : OwnF 2 encE w2 base 54 ev2 (l ++ [e])) (k : Kp (fun c => ev1.ownBlock = some c) wr w2) (ha : ev2.ownBlock = ev1.ownBlock ∨ ev2.ownBlock = some wr.heap.size) : RunQ w base lm hm nv na va vb ev (B + 1) ev2 w2 := by
  obtain ⟨ya, yb, l', K, M, F, E, g, hl'⟩ := h
  refine ⟨ya, yb, _, Kp.grew K g (k.mono fun _ _ q => .inr q), M.kp k fun b hb => ?_, F, hE, g.trans (Grew.of ha) K.size, by simp; omega⟩
  have := (E.lt b hb).1; omega
/-- a variable is written -/
theorem RunQ.vals {av : Option Addr} {dv : Nat} (h : RunQ w base lm hm nv na (.slice av nv dv) vb ev B ev1 wr) (hz : hm ≤ base) {t : Nat} (ht : t < nv) :
    ∃ b, av = some ⟨b, 0, none⟩ ∧ b < wr.heap.size ∧ lm ≤ b ∧ b < hm ∧ (∃ u, wr.cell? ⟨b, t, none⟩ = some (.int .i64 u)) ∧ (∀ i, wr.frozen? ⟨b, i, none⟩ = false) ∧ ∀ x : Int, 0 ≤ x → x ≤ 255 → RunQ w base lm hm nv na (.slice av nv dv) vb ev B ev1 (wr.setCell ⟨b, t, none⟩ (.int .i64 x)) := by
  obtain ⟨ya, yb, l, K, M, F, E, g, hl⟩ := h
  obtain ⟨b, rfl, q1, q2, hc, hf, hs⟩ := M.vals (by rw [F.vl]; omega)
  refine ⟨b, rfl, cell_lt (hc t (by rw [F.vl]; exact ht)), q1, q2, ⟨_, hc t (by rw [F.vl]; exact ht)⟩, hf, fun x x0 x1 => ?_⟩
  refine ⟨_, yb, l, Kp.setCell K (.inl (.inl ⟨q1, q2⟩)) _, hs t (by rw [F.vl]; exact ht) x, (RuP.Fit.setV F t x x0 x1), ?_, g, hl⟩
  refine E.kp ((Kp.refl (fun c => c = b) wr).setCell (.inl rfl) _) fun c e1 e2 => ?_
  have := (E.lt c e1).1; omega
/-- an element of an array is written -/
theorem RunQ.rows {ab : Option Addr} {db : Nat} (h : RunQ w base lm hm nv na va (.slice ab na db) ev B ev1 wr) (hz : hm ≤ base) {t r : Nat} (ht : t < na) (hr : r < 4) :
    ∃ b c d2, ab = some ⟨b, 0, none⟩ ∧ lm ≤ b ∧ b < hm ∧ lm ≤ c ∧ c < hm ∧ wr.cell? ⟨b, t, none⟩ = some (.slice (some ⟨c, 0, none⟩) 4 d2) ∧ (∃ u, wr.cell? ⟨c, r, none⟩ = some (.int .i64 u)) ∧ (∀ i, wr.frozen? ⟨c, i, none⟩ = false) ∧ ∀ x : Int, 0 ≤ x → x ≤ 255 → RunQ w base lm hm nv na va (.slice ab na db) ev B ev1 (wr.setCell ⟨c, r, none⟩ (.int .i64 x)) := by
  obtain ⟨ya, yb, l, K, M, F, E, g, hl⟩ := h
  have ht' : t < yb.length := by rw [F.al]; exact ht
  have h4 := F.ar t ht'
  obtain ⟨b, c, d2, rfl, q1, q2, q3, q4, q5, hc, hf, hs, -⟩ := PartC.rows M t ht' h4
  refine ⟨b, c, d2, rfl, q1, q2, q4, q5, q3, ⟨_, hc r (by omega)⟩, hf, fun x x0 x1 => ?_⟩
  refine ⟨ya, _, l, Kp.setCell K (.inl (.inl ⟨q4, q5⟩)) _, hs r (by omega) x, (RuP.Fit.setA F t r ht' x x0 x1), ?_, g, hl⟩
  refine E.kp ((Kp.refl (fun i => i = c) wr).setCell (.inl rfl) _) fun i e1 e2 => ?_
  have := (E.lt i e1).1; omega
end
/-- an expression's value, with events -/
theorem eval1 {w wr : World} {base lm hm nv na B lo hi : Nat} {va vb ev ev1 s : Value} {k v : Int} {ks : List Ex} (h : RunQ w base lm hm nv na va vb ev B ev1 wr) (hr : right nv na (.node k v ks) = true) (hs : KidsR wr lo hi s ks) (hnv : nv ≤ 1000) (hna : na ≤ 1000) (hi1 : hi ≤ base) (hm1 : hm ≤ base) (hbw : base ≤ wr.heap.size) (hB : B + 16 ≤ 2097152) :
    Calls Tryd.prog 92 #[.agg #[va, vb], .agg #[.int .i64 k, .int .i64 v, s], ev1] wr fun e w2 => ∃ (x : Nat) (ev2 : Value), e = .returned (.tuple #[.int .i64 x, ev2]) ∧ x ≤ 255 ∧ RunQ w base lm hm nv na va vb ev (B + 15) ev2 w2 ∧ RunQ wr base lm hm nv na va vb ev1 (B + 15) ev2 w2 := by
  have h' := h
  obtain ⟨ya, yb, l, K, M, F, E, g, hl⟩ := h
  obtain ⟨hs5, hsz⟩ := right_shp hr
  have hsz2 : Ex.sizes ks ≤ 15 := by simp only [Ex.size] at hsz; omega
  refine (EvS.l3Eval lo hi lm hm base nv na va vb ya yb F hnv hna hi1 hm1 (Ex.sizes ks + 1) wr 5 ev1 s k v ks l (by omega) hs5 hbw M.reads.1 M.reads.2 hs E (by omega)).mono ?_
  rintro e w2 ⟨ev2, rfl, K2, E2, g2⟩
  have hx := evl_range F _ _ hs5
  have hlt := evt_len (ya := ya) (yb := yb) (.node k v ks)
  have q : RunQ wr base lm hm nv na va vb ev1 (B + 15) ev2 w2 := ⟨ya, yb, _, K2.mono fun _ _ q => .inr q, M.kp K2 fun b hb => by have := (E.lt b hb).1; omega, F, E2, g2, by simp only [List.length_append]; omega⟩
  exact ⟨(evl ya yb (.node k v ks)).toNat, ev2, by rw [Int.toNat_of_nonneg hx.1], by omega, h'.trans q, q⟩
/-- an expression's value, its events forgotten -/
theorem eval0 {w wr : World} {base lm hm nv na B lo hi : Nat} {va vb ev ev1 s : Value} {k v : Int} {ks : List Ex} (h : RunQ w base lm hm nv na va vb ev B ev1 wr) (hr : right nv na (.node k v ks) = true) (hs : KidsR wr lo hi s ks) (hnv : nv ≤ 1000) (hna : na ≤ 1000) (hi1 : hi ≤ base) (hm1 : hm ≤ base) (hbw : base ≤ wr.heap.size) :
    Calls Tryd.prog 92 #[.agg #[va, vb], .agg #[.int .i64 k, .int .i64 v, s], .slice none 0 0] wr fun e w2 => ∃ (x : Nat) (u : Value), e = .returned (.tuple #[.int .i64 x, u]) ∧ x ≤ 255 ∧ New wr w2 := by
  obtain ⟨ya, yb, l, K, M, F, E, g, hl⟩ := h
  obtain ⟨hs5, hsz⟩ := right_shp hr
  have hsz2 : Ex.sizes ks ≤ 15 := by simp only [Ex.size] at hsz; omega
  refine (EvS.l3Eval lo hi lm hm base nv na va vb ya yb F hnv hna hi1 hm1 (Ex.sizes ks + 1) wr 5 (.slice none 0 0) s k v ks [] (by omega) hs5 hbw M.reads.1 M.reads.2 hs (OwnF.nil _ _ _) (by simp; omega)).mono ?_
  rintro e w2 ⟨ev2, rfl, K2, E2, g2⟩
  have hx := evl_range F _ _ hs5
  exact ⟨(evl ya yb (.node k v ks)).toNat, ev2, by rw [Int.toNat_of_nonneg hx.1], by omega, K2.mono fun _ _ q => by simp [Value.ownBlock] at q⟩
end Go.Proofs.YtckikiaockkmbaaDoor.RuP
