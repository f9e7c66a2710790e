/- Draws of changed codes: l6Mutate. Condition: fewer than 2^40 picks so far. -/
import Derived.Test.YtbicpkmlionldaaVDrawD
import Derived.Test.YtbicpkmlionldaaVInv
import Derived.Test.YtbicpkmlionldaaVP1
namespace Go.Proofs.Ytbicpkmlionldaa.DrawU
open Go.RowKit Kit Draw DrawX MarkC DrawD
set_option linter.unusedVariables false
def upd (v : Nat → Value) (i : Nat) (x : Value) : Nat → Value := fun j => if j = i then x else v j
/-- a row of the call's own whose block bears colour c1 or c2 -/
def Ow {α : Type} (n : Nat) (enc : α → Nat → Value) (w w1 : World) (T : TypeId) (v : Value) (xs : List α) (col : Nat → Nat) (c1 c2 : Nat) : Prop := OwnF n enc w w1.heap.size T v xs ∧ ∀ b, v.ownBlock = some b → col b = c1 ∨ col b = c2
theorem Ow.keep {α : Type} {n : Nat} {enc : α → Nat → Value} {w w1 w' : World} {T : TypeId} {v : Value} {xs : List α} {col col' : Nat → Nat} {c1 c2 : Nat} (h : Ow n enc w w1 T v xs col c1 c2) {S : Nat → Prop} (k : Kp S w w') (hcol : ∀ b, b < w.heap.size → col' b = col b) (hS : ∀ b, S b → b < w.heap.size → col b ≠ c1 ∧ col b ≠ c2) : Ow n enc w' w1 T v xs col' c1 c2 :=
  ⟨h.1.kp k fun b hb hs => by
    have h1 := (h.1.lt b hb).2
    have h2 := hS b hs h1
    rcases h.2 b hb with e | e
    · exact h2.1 e
    · exact h2.2 e, fun b hb => by rw [hcol b (h.1.lt b hb).2]; exact h.2 b hb⟩
theorem own_is {b c n d : Nat} (h : (Value.slice (some ⟨b, 0, none⟩) n d).ownBlock = some c) : c = b := by
  rw [ownBlock_at] at h; cases h; rfl
/-- what number i has brought -/
def MuP (w1 : World) (pb : Nat) (a1 a2 a3 : Option Addr) (d1 d2 d3 : Nat) (xa xb : List Int) (x : List Ins) (col : Nat → Nat) (v : Nat → Value) (w : World) : Nat → Prop
  | 0 => (∃ b, v 0 = .slice (some ⟨b, 0, none⟩) 0 0) ∧ Ow 1 encI w w1 3 (v 0) ([] : List Int) col 0 0
  | 1 => v 1 = .pointer (some ⟨pb, 0, none⟩)
  | 2 => v 2 = .slice a1 xa.length d1
  | 3 => (∃ a d, v 3 = .slice a xa.length d) ∧ Ow 1 encI w w1 3 (v 3) xa col 3 0
  | 4 => (∃ b, v 4 = .slice (some ⟨b, 0, none⟩) 0 0) ∧ Ow 1 encI w w1 3 (v 4) ([] : List Int) col 4 4
  | 5 => v 5 = .pointer (some ⟨pb, 1, none⟩)
  | 6 => v 6 = .slice a2 xb.length d2
  | 7 => (∃ a d, v 7 = .slice a xb.length d) ∧ Ow 1 encI w w1 3 (v 7) xb col 7 4
  | 8 => (∃ b, v 8 = .slice (some ⟨b, 0, none⟩) 0 0) ∧ Ow 5 encN w w1 42 (v 8) ([] : List Ins) col 8 8
  | 9 => v 9 = .pointer (some ⟨pb, 2, none⟩)
  | 10 => v 10 = .slice a3 x.length d3
  | 11 => (∃ a d, v 11 = .slice a x.length d) ∧ Ow 5 encN w w1 42 (v 11) x col 11 8
  | 12 => v 12 = .agg #[v 3, v 7, v 11]
  | 13 => ∃ b, v 13 = .pointer (some ⟨b, 0, none⟩) ∧ w.heap[b]? = some (.cells #[.slice none 0 0, .slice none 0 0, .slice none 0 0] 26 (0, 0)) ∧ col b = 13 ∧ w1.heap.size ≤ b
  | _ => True
def gate (l : Array Bool) : Nat → Bool | 0 => l.getD 3 true | 4 => l.getD 7 true | 8 => l.getD 11 true | _ => false
structure Mu (w1 : World) (pb : Nat) (a1 a2 a3 : Option Addr) (d1 d2 d3 : Nat) (xa xb : List Int) (x : List Ins) (col : Nat → Nat) (v : Nat → Value) (l : Array Bool) (w : World) : Prop where
  N : New w1 w
  f : ∀ j, j < 14 → l.getD j false = true → gate l j = false → MuP w1 pb a1 a2 a3 d1 d2 d3 xa xb x col v w j
  d : l.getD 12 false = true → l.getD 3 false = true ∧ l.getD 7 false = true ∧ l.getD 11 false = true
theorem set_yes {l : Array Bool} {i j : Nat} (h : l.getD j false = true) : (l.setIfInBounds i true).getD j false = true := by
  by_cases e : i = j
  · subst e
    have hj : i < l.size := by
      rcases Nat.lt_or_ge i l.size with q | q
      · exact q
      · rw [Array.getD, dif_neg (by omega)] at h; cases h
    simp [Array.getD, hj]
  · rw [getD_set_ne false e]; exact h
theorem both {l : Array Bool} {j : Nat} (h : l.getD j false = true) (h2 : l.getD j true = false) : False := by
  rcases Nat.lt_or_ge j l.size with q | q
  · rw [getD_same q, h] at h2; cases h2
  · rw [Array.getD, dif_neg (by omega)] at h2; cases h2
theorem no_of {l : Array Bool} {i j : Nat} (h : (l.setIfInBounds i true).getD j true = false) : i ≠ j ∧ l.getD j true = false := by
  by_cases e : i = j
  · subst e
    rcases Nat.lt_or_ge i l.size with q | q
    · simp [Array.getD, q] at h
    · rw [Array.getD, dif_neg (by simp; omega)] at h; cases h
  · exact ⟨e, by rwa [getD_set_ne true e] at h⟩
theorem Mu.step {w1 : World} {pb : Nat} {a1 a2 a3 : Option Addr} {d1 d2 d3 : Nat} {xa xb : List Int} {x : List Ins} {col : Nat → Nat} {v : Nat → Value} {l : Array Bool} {w : World} (F : Mu w1 pb a1 a2 a3 d1 d2 d3 xa xb x col v l w) (hl : l.size = 15) {i : Nat} (hi : i < 14) (hu : l.getD i true = false)
    (u : Value) (col' : Nat → Nat) {w' : World} {S : Nat → Prop} (k : Kp S w w') (hN : ∀ b, S b → w1.heap.size ≤ b) (hcol : ∀ b, b < w.heap.size → col' b = col b) (hS : ∀ b, S b → b < w.heap.size → i = 3 ∧ col b = 0 ∨ i = 7 ∧ col b = 4 ∨ i = 11 ∧ col b = 8)
    (new : MuP w1 pb a1 a2 a3 d1 d2 d3 xa xb x col' (upd v i u) w' i) (h12 : i = 12 → l.getD 3 false = true ∧ l.getD 7 false = true ∧ l.getD 11 false = true) : Mu w1 pb a1 a2 a3 d1 d2 d3 xa xb x col' (upd v i u) (l.setIfInBounds i true) w' := by
  refine ⟨F.N.on k hN, fun j hj hjl hg => ?_, fun h => ?_⟩
  · by_cases e : j = i
    · subst e; exact new
    · have hjl2 : l.getD j false = true := by rwa [getD_set_ne false (fun q => e q.symm)] at hjl
      have hv : ∀ q, q ≠ i → upd v i u q = v q := fun q hq => if_neg hq
      match j, hj, hjl2, hg, e with
      | 0, hj, h1, hg, e => have hq := no_of (j := 3) hg; have h := F.f 0 hj h1 hq.2; show (∃ b, upd v i u 0 = _) ∧ Ow _ _ _ _ _ (upd v i u 0) _ _ _ _; rw [hv 0 e]; exact ⟨h.1, h.2.keep k hcol fun b hs hb => by have := hS b hs hb; omega⟩
      | 1, hj, h1, hg, e => have h := F.f 1 hj h1 rfl; show upd v i u 1 = _; rw [hv 1 e]; exact h
      | 2, hj, h1, hg, e => have h := F.f 2 hj h1 rfl; show upd v i u 2 = _; rw [hv 2 e]; exact h
      | 3, hj, h1, hg, e => have h := F.f 3 hj h1 rfl; show (∃ a d, upd v i u 3 = _) ∧ Ow _ _ _ _ _ (upd v i u 3) _ _ _ _; rw [hv 3 e]; exact ⟨h.1, h.2.keep k hcol fun b hs hb => by have := hS b hs hb; omega⟩
      | 4, hj, h1, hg, e => have hq := no_of (j := 7) hg; have h := F.f 4 hj h1 hq.2; show (∃ b, upd v i u 4 = _) ∧ Ow _ _ _ _ _ (upd v i u 4) _ _ _ _; rw [hv 4 e]; exact ⟨h.1, h.2.keep k hcol fun b hs hb => by have := hS b hs hb; omega⟩
      | 5, hj, h1, hg, e => have h := F.f 5 hj h1 rfl; show upd v i u 5 = _; rw [hv 5 e]; exact h
      | 6, hj, h1, hg, e => have h := F.f 6 hj h1 rfl; show upd v i u 6 = _; rw [hv 6 e]; exact h
      | 7, hj, h1, hg, e => have h := F.f 7 hj h1 rfl; show (∃ a d, upd v i u 7 = _) ∧ Ow _ _ _ _ _ (upd v i u 7) _ _ _ _; rw [hv 7 e]; exact ⟨h.1, h.2.keep k hcol fun b hs hb => by have := hS b hs hb; omega⟩
      | 8, hj, h1, hg, e => have hq := no_of (j := 11) hg; have h := F.f 8 hj h1 hq.2; show (∃ b, upd v i u 8 = _) ∧ Ow _ _ _ _ _ (upd v i u 8) _ _ _ _; rw [hv 8 e]; exact ⟨h.1, h.2.keep k hcol fun b hs hb => by have := hS b hs hb; omega⟩
      | 9, hj, h1, hg, e => have h := F.f 9 hj h1 rfl; show upd v i u 9 = _; rw [hv 9 e]; exact h
      | 10, hj, h1, hg, e => have h := F.f 10 hj h1 rfl; show upd v i u 10 = _; rw [hv 10 e]; exact h
      | 11, hj, h1, hg, e => have h := F.f 11 hj h1 rfl; show (∃ a d, upd v i u 11 = _) ∧ Ow _ _ _ _ _ (upd v i u 11) _ _ _ _; rw [hv 11 e]; exact ⟨h.1, h.2.keep k hcol fun b hs hb => by have := hS b hs hb; omega⟩
      | 12, hj, h1, hg, e =>
        have h := F.f 12 hj h1 rfl
        obtain ⟨q3, q7, q11⟩ := F.d h1
        show upd v i u 12 = .agg #[upd v i u 3, upd v i u 7, upd v i u 11]
        rw [hv 12 e, hv 3 (fun q => both q3 (q ▸ hu)), hv 7 (fun q => both q7 (q ▸ hu)), hv 11 (fun q => both q11 (q ▸ hu))]; exact h
      | 13, hj, h1, hg, e =>
        obtain ⟨b, e1, e2, e3, e4⟩ := F.f 13 hj h1 rfl
        have hb := heap_lt e2
        refine ⟨b, (hv 13 e).trans e1, (k.block b hb fun hs => by have := hS b hs hb; omega).trans e2, (hcol b hb).trans e3, e4⟩
  · by_cases e : i = 12
    · obtain ⟨q1, q2, q3⟩ := h12 e; exact ⟨set_yes q1, set_yes q2, set_yes q3⟩
    · rw [getD_set_ne false e] at h
      obtain ⟨q1, q2, q3⟩ := F.d h; exact ⟨set_yes q1, set_yes q2, set_yes q3⟩
theorem start_none (j : Nat) (hj : j < 14) : ¬ (Array.replicate 15 false).getD j false = true := by
  simp [Array.getD]
theorem row_range {α : Type} {n : Nat} {enc : α → Nat → Value} {w : World} {base : Nat} {T : TypeId} {v : Value} {xs : List α} (h : OwnF n enc w base T v xs) (hb : base ≤ w.heap.size) : ∃ lo hi, OwnR n enc w lo hi T v xs ∧ base ≤ lo ∧ lo ≤ hi ∧ hi ≤ w.heap.size ∧ ∀ b, (∀ c, v.ownBlock = some c → b ≠ c) → b < lo ∨ hi ≤ b := by
  rcases h.form with ⟨e1, e2⟩ | ⟨b, cap, cs, rfl, hb1, hb2, hb3, hh, hs, hc⟩
  · subst e1; subst e2
    exact ⟨w.heap.size, w.heap.size, ⟨OwnF.nil _ _ _, fun b hb => by simp [Value.ownBlock] at hb⟩, hb, Nat.le_refl _, Nat.le_refl _, fun b _ => by omega⟩
  · have hl := heap_lt hh
    exact ⟨b, b + 1, ⟨h.up fun c hc => by rw [own_is hc]; exact Nat.le_refl _, fun c hc => by rw [own_is hc]; exact Nat.lt_succ_self _⟩, hb1, by omega, by omega, fun c hc => by have := hc b (ownBlock_at _ _ _); omega⟩
/-- changed code, drawn by at most 5 picks -/
def GotU (w : World) (br p : Nat) (xa xb : List Int) (x : List Ins) (e : Ending) (w' : World) : Prop := ∃ (a1 a2 a3 : Option Addr) (d1 d2 d3 : Nat) (ya yb : List Int) (y : List Ins) (q : Nat), e = .returned (.agg #[.slice a1 ya.length d1, .slice a2 yb.length d2, .slice a3 y.length d3]) ∧ One br w w' ∧ Rd w' br q ∧ q ≤ p + 5 ∧
  IntsR w' w.heap.size w'.heap.size (.slice a1 ya.length d1) ya ∧ IntsR w' w.heap.size w'.heap.size (.slice a2 yb.length d2) yb ∧ InssR w' w.heap.size w'.heap.size (.slice a3 y.length d3) y ∧ ya.length ≤ xa.length ∧ yb.length ≤ xb.length ∧ y.length ≤ x.length
def MuI (w1 : World) (br pb : Nat) (a1 a2 a3 : Option Addr) (d1 d2 d3 : Nat) (xa xb : List Int) (x : List Ins) (l : Array Bool) (a : Act) (w : World) : Prop := ∃ (v : Nat → Value) (col : Nat → Nat), a = { tmps := #[.pointer (some ⟨br, 0, none⟩), .agg #[.slice a1 xa.length d1, .slice a2 xb.length d2, .slice a3 x.length d3], undef, .pointer (some ⟨pb, 0, none⟩), .pointer (some ⟨pb + 1, 0, none⟩), v 13, undef, v 0, v 1, v 2, v 3, v 4, v 5, v 6, v 7, v 8, v 9, v 10, v 11, v 12, undef, undef, undef, undef, undef, undef, undef, undef, undef, undef, undef, undef, undef, undef, undef, undef, undef, undef, undef, undef, undef, undef, undef, undef, undef, undef, undef, undef, undef, undef, undef, undef, undef, undef, undef, undef, undef, undef, undef, undef, undef, undef, undef, undef, undef, undef, undef, undef, undef, undef, undef, undef, undef, undef, undef, undef, undef, undef, undef, undef, undef, undef], defers := [] } ∧ Mu w1 pb a1 a2 a3 d1 d2 d3 xa xb x col v l w
set_option maxHeartbeats 16000000 in
set_option maxRecDepth 100000 in
theorem l6Mutate (w : World) (br p lo hi : Nat) (a1 a2 a3 : Option Addr) (d1 d2 d3 : Nat) (xa xb : List Int) (x : List Ins) (h : Rd w br p) (sa : IntsR w lo hi (.slice a1 xa.length d1) xa) (sb : IntsR w lo hi (.slice a2 xb.length d2) xb) (sc : InssR w lo hi (.slice a3 x.length d3) x) (hh : hi ≤ w.heap.size) (hxa : xa.length ≤ 1000) (hxb : xb.length ≤ 1000) (hx : x.length ≤ 1000) (hp : p + 20 < 1099511627776) :
    Calls Try.prog 48 #[.pointer (some ⟨br, 0, none⟩), .agg #[.slice a1 xa.length d1, .slice a2 xb.length d2, .slice a3 x.length d3]] w (GotU w br p xa xb x) := by
  have hbl := h.lt
  go_enter Try.func48, Try.ntmps48
  go_upto_region 1 with fail
  have N0 : New w ((w.alloc (.cells #[.slice a1 xa.length d1, .slice a2 xb.length d2, .slice a3 x.length d3] 26)).alloc (.cells #[.slice none 0 0, .slice none 0 0, .slice none 0 0] 26)) := ((Kp.refl _ _).alloc _).alloc _
  have bP : ((w.alloc (.cells #[.slice a1 xa.length d1, .slice a2 xb.length d2, .slice a3 x.length d3] 26)).alloc (.cells #[.slice none 0 0, .slice none 0 0, .slice none 0 0] 26)).heap[w.heap.size]? = some (.cells #[.slice a1 xa.length d1, .slice a2 xb.length d2, .slice a3 x.length d3] 26) := heap_old (alloc_heap _ _)
  have bR : ((w.alloc (.cells #[.slice a1 xa.length d1, .slice a2 xb.length d2, .slice a3 x.length d3] 26)).alloc (.cells #[.slice none 0 0, .slice none 0 0, .slice none 0 0] 26)).heap[w.heap.size + 1]? = some (.cells #[.slice none 0 0, .slice none 0 0, .slice none 0 0] 26) := heap_at (by simp)
  have z0 : w.heap.size + 1 < ((w.alloc (.cells #[.slice a1 xa.length d1, .slice a2 xb.length d2, .slice a3 x.length d3] 26)).alloc (.cells #[.slice none 0 0, .slice none 0 0, .slice none 0 0] 26)).heap.size := by simp
  generalize ((w.alloc (.cells #[.slice a1 xa.length d1, .slice a2 xb.length d2, .slice a3 x.length d3] 26)).alloc (.cells #[.slice none 0 0, .slice none 0 0, .slice none 0 0] 26)) = w0 at *
  have r0 := h.nw N0
  have K0 : One br w w0 := N0.mono (fun _ _ f => f.elim)
  clear h
  refine wp_region_any (by kernel_rfl) ?_
  have hdr : New w0 w0.drew := (Kp.refl _ _).drew
  change wpAny _ _ _ _ _ _ _ w0.drew
  generalize w0.drew = w1 at *
  have bP1 := Lib.hid (heap_new hdr bP)
  have sa1 := Lib.hid ((sa.new hh N0).new (by have := N0.size; omega) hdr)
  have sb1 := Lib.hid ((sb.new hh N0).new (by have := N0.size; omega) hdr)
  have sc1 := Lib.hid ((sc.new hh N0).new (by have := N0.size; omega) hdr)
  have hh1 : hi ≤ w1.heap.size := by have := N0.size; have := hdr.size; omega
  have z1 : w.heap.size + 1 < w1.heap.size := by have := hdr.size; omega
  clear sa sb sc bP
  refine any_inv (n := 14) (I := MuI w1 br w.heap.size a1 a2 a3 d1 d2 d3 xa xb x) (by kernel_rfl) (by kernel_rfl) (by kernel_rfl) ?step ?last _ _ _ _ (by kernel_rfl) (by kernel_rfl) (by kernel_rfl) ?start
  case start => exact ⟨fun _ => undef, fun _ => 0, rfl, Kp.refl _ _, fun j hj h => absurd h (start_none j hj), fun h => absurd h (by decide)⟩
  case step =>
    rintro i listed a w2 hi hs ⟨v, col, rfl, F⟩ hu hall
    have hF := Lib.hid F
    have zN := F.N.size
    clear F
    match i, hi, hu, hall with
    | 0, hi, hu, hall =>
      refine wpOp_step rfl (fun K hK0 => ?_)
      have hK := Lib.hid hK0
      clear hK0
      go_simp
      exact hK.out _ _ ⟨upd v 0 (.slice (some ⟨w2.heap.size, 0, none⟩) 0 0), fun b => if b < w2.heap.size then col b else 0, rfl, hF.out.step hs hi hu _ _ ((Kp.refl (fun _ => False) w2).alloc _) (fun _ f => f.elim) (fun b hb => if_pos hb) (fun _ f => f.elim) ⟨⟨_, rfl⟩, OwnF.empty w2 3 zN, fun b hb => .inl (by obtain rfl := own_is hb; exact if_neg (Nat.lt_irrefl _))⟩ (fun e => absurd e (by decide))⟩
    | 4, hi, hu, hall =>
      refine wpOp_step rfl (fun K hK0 => ?_)
      have hK := Lib.hid hK0
      clear hK0
      go_simp
      exact hK.out _ _ ⟨upd v 4 (.slice (some ⟨w2.heap.size, 0, none⟩) 0 0), fun b => if b < w2.heap.size then col b else 4, rfl, hF.out.step hs hi hu _ _ ((Kp.refl (fun _ => False) w2).alloc _) (fun _ f => f.elim) (fun b hb => if_pos hb) (fun _ f => f.elim) ⟨⟨_, rfl⟩, OwnF.empty w2 3 zN, fun b hb => .inl (by obtain rfl := own_is hb; exact if_neg (Nat.lt_irrefl _))⟩ (fun e => absurd e (by decide))⟩
    | 8, hi, hu, hall =>
      refine wpOp_step rfl (fun K hK0 => ?_)
      have hK := Lib.hid hK0
      clear hK0
      go_simp
      exact hK.out _ _ ⟨upd v 8 (.slice (some ⟨w2.heap.size, 0, none⟩) 0 0), fun b => if b < w2.heap.size then col b else 8, rfl, hF.out.step hs hi hu _ _ ((Kp.refl (fun _ => False) w2).alloc _) (fun _ f => f.elim) (fun b hb => if_pos hb) (fun _ f => f.elim) ⟨⟨_, rfl⟩, OwnF.empty w2 42 zN, fun b hb => .inl (by obtain rfl := own_is hb; exact if_neg (Nat.lt_irrefl _))⟩ (fun e => absurd e (by decide))⟩
    | 1, hi, hu, hall =>
      refine wpOp_step rfl (fun K hK0 => ?_)
      have hK := Lib.hid hK0
      clear hK0
      go_simp
      exact hK.out _ _ ⟨upd v 1 (.pointer (some ⟨w.heap.size, 0, none⟩)), col, rfl, hF.out.step hs hi hu _ _ (Kp.refl (fun _ => False) w2) (fun _ f => f.elim) (fun b hb => rfl) (fun _ f => f.elim) rfl (fun e => absurd e (by decide))⟩
    | 5, hi, hu, hall =>
      refine wpOp_step rfl (fun K hK0 => ?_)
      have hK := Lib.hid hK0
      clear hK0
      go_simp
      exact hK.out _ _ ⟨upd v 5 (.pointer (some ⟨w.heap.size, 1, none⟩)), col, rfl, hF.out.step hs hi hu _ _ (Kp.refl (fun _ => False) w2) (fun _ f => f.elim) (fun b hb => rfl) (fun _ f => f.elim) rfl (fun e => absurd e (by decide))⟩
    | 9, hi, hu, hall =>
      refine wpOp_step rfl (fun K hK0 => ?_)
      have hK := Lib.hid hK0
      clear hK0
      go_simp
      exact hK.out _ _ ⟨upd v 9 (.pointer (some ⟨w.heap.size, 2, none⟩)), col, rfl, hF.out.step hs hi hu _ _ (Kp.refl (fun _ => False) w2) (fun _ f => f.elim) (fun b hb => rfl) (fun _ f => f.elim) rfl (fun e => absurd e (by decide))⟩
    | 2, hi, hu, hall =>
      have e1 : v 1 = .pointer (some ⟨w.heap.size, 0, none⟩) := hF.out.f 1 (by decide) (hall 1 (by kernel_rfl)) rfl
      have cP := cell_of_heap (heap_new hF.out.N bP1.out) 0
      refine wpOp_step rfl (fun K hK0 => ?_)
      have hK := Lib.hid hK0
      clear hK0
      simp only [e1]
      go_simp
      exact hK.out _ _ ⟨upd v 2 (.slice a1 xa.length d1), col, (by simp [upd, e1]), hF.out.step hs hi hu _ _ (Kp.refl (fun _ => False) w2) (fun _ f => f.elim) (fun b hb => rfl) (fun _ f => f.elim) rfl (fun e => absurd e (by decide))⟩
    | 6, hi, hu, hall =>
      have e1 : v 5 = .pointer (some ⟨w.heap.size, 1, none⟩) := hF.out.f 5 (by decide) (hall 5 (by kernel_rfl)) rfl
      have cP := cell_of_heap (heap_new hF.out.N bP1.out) 1
      refine wpOp_step rfl (fun K hK0 => ?_)
      have hK := Lib.hid hK0
      clear hK0
      simp only [e1]
      go_simp
      exact hK.out _ _ ⟨upd v 6 (.slice a2 xb.length d2), col, (by simp [upd, e1]), hF.out.step hs hi hu _ _ (Kp.refl (fun _ => False) w2) (fun _ f => f.elim) (fun b hb => rfl) (fun _ f => f.elim) rfl (fun e => absurd e (by decide))⟩
    | 10, hi, hu, hall =>
      have e1 : v 9 = .pointer (some ⟨w.heap.size, 2, none⟩) := hF.out.f 9 (by decide) (hall 9 (by kernel_rfl)) rfl
      have cP := cell_of_heap (heap_new hF.out.N bP1.out) 2
      refine wpOp_step rfl (fun K hK0 => ?_)
      have hK := Lib.hid hK0
      clear hK0
      simp only [e1]
      go_simp
      exact hK.out _ _ ⟨upd v 10 (.slice a3 x.length d3), col, (by simp [upd, e1]), hF.out.step hs hi hu _ _ (Kp.refl (fun _ => False) w2) (fun _ f => f.elim) (fun b hb => rfl) (fun _ f => f.elim) rfl (fun e => absurd e (by decide))⟩
    | 3, hi, hu, hall =>
      obtain ⟨⟨b, e0⟩, hO, hc⟩ := hF.out.f 0 (by decide) (hall 0 (by kernel_rfl)) (by simpa [gate] using hu)
      rw [e0] at hO hc
      have hcb := hc b (by simp [Value.ownBlock])
      have hbl2 := hO.lt b (by simp [Value.ownBlock])
      have e2 : v 2 = .slice a1 xa.length d1 := hF.out.f 2 (by decide) (hall 2 (by kernel_rfl)) rfl
      simp only [e0, e2]
      refine wpOp_step rfl (fun K hK0 => ?_)
      have hK := Lib.hid hK0
      clear hK0
      refine step_pushes rfl (.tmp 7) (.tmp 9) 23 rfl w1.heap.size 3 _ _ Try.underlying23 LawF.infoI rfl (by decide) (.slice (some ⟨b, 0, none⟩) 0 0) [] rfl hO (.slice a1 xa.length d1) xa rfl (sa1.out.new hh1 hF.out.N) (fun y _ _ => rfl) (by simp; omega) (by simp; omega) zN ?_
      intro v' w3 hv hk ha
      rw [List.nil_append] at hv
      obtain ⟨a4, d4, e4, _⟩ := hv.reads.len
      exact hK.out _ _ ⟨upd v 3 v', fun b => if b < w2.heap.size then col b else 3, (by simp [upd, e0, e2]; rfl), hF.out.step hs hi hu _ _ hk (fun c q => by obtain rfl := own_is q; exact hbl2.1) (fun b hb => if_pos hb) (fun c q _ => by obtain rfl := own_is q; have := hcb; omega) ⟨⟨a4, d4, e4⟩, hv, fun c q => by
        rcases ha with e | e
        · right
          rw [show upd v 3 v' 3 = v' from rfl, e] at q
          obtain rfl := own_is q
          show (if c < w2.heap.size then col c else 3) = _
          rw [if_pos hbl2.2]; omega
        · left
          rw [show upd v 3 v' 3 = v' from rfl, e] at q
          cases q
          exact if_neg (Nat.lt_irrefl _)⟩ (fun e => absurd e (by decide))⟩
    | 7, hi, hu, hall =>
      obtain ⟨⟨b, e0⟩, hO, hc⟩ := hF.out.f 4 (by decide) (hall 4 (by kernel_rfl)) (by simpa [gate] using hu)
      rw [e0] at hO hc
      have hcb := hc b (by simp [Value.ownBlock])
      have hbl2 := hO.lt b (by simp [Value.ownBlock])
      have e2 : v 6 = .slice a2 xb.length d2 := hF.out.f 6 (by decide) (hall 6 (by kernel_rfl)) rfl
      simp only [e0, e2]
      refine wpOp_step rfl (fun K hK0 => ?_)
      have hK := Lib.hid hK0
      clear hK0
      refine step_pushes rfl (.tmp 11) (.tmp 13) 23 rfl w1.heap.size 3 _ _ Try.underlying23 LawF.infoI rfl (by decide) (.slice (some ⟨b, 0, none⟩) 0 0) [] rfl hO (.slice a2 xb.length d2) xb rfl (sb1.out.new hh1 hF.out.N) (fun y _ _ => rfl) (by simp; omega) (by simp; omega) zN ?_
      intro v' w3 hv hk ha
      rw [List.nil_append] at hv
      obtain ⟨a4, d4, e4, _⟩ := hv.reads.len
      exact hK.out _ _ ⟨upd v 7 v', fun b => if b < w2.heap.size then col b else 7, (by simp [upd, e0, e2]; rfl), hF.out.step hs hi hu _ _ hk (fun c q => by obtain rfl := own_is q; exact hbl2.1) (fun b hb => if_pos hb) (fun c q _ => by obtain rfl := own_is q; have := hcb; omega) ⟨⟨a4, d4, e4⟩, hv, fun c q => by
        rcases ha with e | e
        · right
          rw [show upd v 7 v' 7 = v' from rfl, e] at q
          obtain rfl := own_is q
          show (if c < w2.heap.size then col c else 7) = _
          rw [if_pos hbl2.2]; omega
        · left
          rw [show upd v 7 v' 7 = v' from rfl, e] at q
          cases q
          exact if_neg (Nat.lt_irrefl _)⟩ (fun e => absurd e (by decide))⟩
    | 11, hi, hu, hall =>
      obtain ⟨⟨b, e0⟩, hO, hc⟩ := hF.out.f 8 (by decide) (hall 8 (by kernel_rfl)) (by simpa [gate] using hu)
      rw [e0] at hO hc
      have hcb := hc b (by simp [Value.ownBlock])
      have hbl2 := hO.lt b (by simp [Value.ownBlock])
      have e2 : v 10 = .slice a3 x.length d3 := hF.out.f 10 (by decide) (hall 10 (by kernel_rfl)) rfl
      simp only [e0, e2]
      refine wpOp_step rfl (fun K hK0 => ?_)
      have hK := Lib.hid hK0
      clear hK0
      refine step_pushes rfl (.tmp 15) (.tmp 17) 24 rfl w1.heap.size 42 _ _ Try.underlying24 DrawD.infoIns rfl (by decide) (.slice (some ⟨b, 0, none⟩) 0 0) [] rfl hO (.slice a3 x.length d3) x rfl (sc1.out.new hh1 hF.out.N) (fun y _ t => oneN y t) (by simp; omega) (by simp; omega) zN ?_
      intro v' w3 hv hk ha
      rw [List.nil_append] at hv
      obtain ⟨a4, d4, e4, _⟩ := hv.reads.len
      exact hK.out _ _ ⟨upd v 11 v', fun b => if b < w2.heap.size then col b else 11, (by simp [upd, e0, e2]; rfl), hF.out.step hs hi hu _ _ hk (fun c q => by obtain rfl := own_is q; exact hbl2.1) (fun b hb => if_pos hb) (fun c q _ => by obtain rfl := own_is q; have := hcb; omega) ⟨⟨a4, d4, e4⟩, hv, fun c q => by
        rcases ha with e | e
        · right
          rw [show upd v 11 v' 11 = v' from rfl, e] at q
          obtain rfl := own_is q
          show (if c < w2.heap.size then col c else 11) = _
          rw [if_pos hbl2.2]; omega
        · left
          rw [show upd v 11 v' 11 = v' from rfl, e] at q
          cases q
          exact if_neg (Nat.lt_irrefl _)⟩ (fun e => absurd e (by decide))⟩
    | 12, hi, hu, hall =>
      obtain ⟨⟨g1, t1, e3⟩, -⟩ := hF.out.f 3 (by decide) (hall 3 (by kernel_rfl)) rfl
      obtain ⟨⟨g2, t2, e7⟩, -⟩ := hF.out.f 7 (by decide) (hall 7 (by kernel_rfl)) rfl
      obtain ⟨⟨g3, t3, e11⟩, -⟩ := hF.out.f 11 (by decide) (hall 11 (by kernel_rfl)) rfl
      have h3 := hall 3 (by kernel_rfl)
      have h7 := hall 7 (by kernel_rfl)
      have h11 := hall 11 (by kernel_rfl)
      refine wpOp_step rfl (fun K hK0 => ?_)
      have hK := Lib.hid hK0
      clear hK0
      simp only [e3, e7, e11]
      go_simp
      exact hK.out _ _ ⟨upd v 12 (.agg #[.slice g1 xa.length t1, .slice g2 xb.length t2, .slice g3 x.length t3]), col, (by simp [upd, e3, e7, e11]), hF.out.step hs hi hu _ _ (Kp.refl (fun _ => False) w2) (fun _ f => f.elim) (fun b hb => rfl) (fun _ f => f.elim) (by simp [MuP, upd, e3, e7, e11]) (fun _ => ⟨h3, h7, h11⟩)⟩
    | 13, hi, hu, hall =>
      refine wpOp_step rfl (fun K hK0 => ?_)
      have hK := Lib.hid hK0
      clear hK0
      go_simp
      exact hK.out _ _ ⟨upd v 13 (.pointer (some ⟨w2.heap.size, 0, none⟩)), fun b => if b < w2.heap.size then col b else 13, rfl, hF.out.step hs hi hu _ _ ((Kp.refl (fun _ => False) w2).alloc _) (fun _ f => f.elim) (fun b hb => if_pos hb) (fun _ f => f.elim) ⟨_, rfl, alloc_heap _ _, if_neg (Nat.lt_irrefl _), zN⟩ (fun e => absurd e (by decide))⟩
  case last =>
    rintro listed a w2 ⟨v, col, rfl, F⟩ hall
    obtain ⟨⟨g1, t1, e3⟩, o3, c3⟩ := F.f 3 (by decide) (hall 3 (by decide)) rfl
    obtain ⟨⟨g2, t2, e7⟩, o7, c7⟩ := F.f 7 (by decide) (hall 7 (by decide)) rfl
    obtain ⟨⟨g3, t3, e11⟩, o11, c11⟩ := F.f 11 (by decide) (hall 11 (by decide)) rfl
    have e12 := F.f 12 (by decide) (hall 12 (by decide)) rfl
    obtain ⟨be, e13, bE, cE, zE⟩ := F.f 13 (by decide) (hall 13 (by decide)) rfl
    have e12b : v 12 = .agg #[.slice g1 xa.length t1, .slice g2 xb.length t2, .slice g3 x.length t3] := by rw [← e3, ← e7, ← e11]; exact e12
    rw [e3] at o3 c3
    rw [e7] at o7 c7
    rw [e11] at o11 c11
    have hN := F.N
    simp only [List.drop_succ_cons, List.drop_zero, e12b, e13, e3, e7, e11]
    clear e12 F hall
    have hwd : New w0 w2 := hdr.trans hN
    have bR_2 := heap_new hwd bR
    have r2 := r0.nw hwd
    have K2 := K0.nw hwd
    have z2 := hN.size
    have bE_2 := bE
    obtain ⟨l1, h1, oA, q11, q12, q13, q14⟩ := row_range o3 z2
    obtain ⟨l2, h2, oB, q21, q22, q23, q24⟩ := row_range o7 z2
    obtain ⟨l3, h3, oX, q31, q32, q33, q34⟩ := row_range o11 z2
    have ne1 := q14 be (fun c hc e => by subst e; have := c3 be hc; omega)
    have ne2 := q24 be (fun c hc e => by subst e; have := c7 be hc; omega)
    have ne3 := q34 be (fun c hc e => by subst e; have := c11 be hc; omega)
    have ap1 := Lib.hid (fun g (hg : (Value.slice g3 x.length t3).ownBlock = some g) => q14 g (fun c hc e => by subst e; have := c3 g hc; have := c11 g hg; omega))
    have ap2 := Lib.hid (fun g (hg : (Value.slice g3 x.length t3).ownBlock = some g) => q24 g (fun c hc e => by subst e; have := c7 g hc; have := c11 g hg; omega))
    have hxl := Lib.hid (show ∀ g, (Value.slice g3 x.length t3).ownBlock = some g → w1.heap.size ≤ g from fun g hg => (o11.lt g hg).1)
    have oA_2 := Lib.hid oA
    have oB_2 := Lib.hid oB
    have oX_2 := Lib.hid oX
    have hbr : br < w1.heap.size := by have := r0.lt; have := hdr.size; omega
    clear o3 o7 o11 c3 c7 c11 oA oB oX bE hwd bR r0 K0 q14 q24 q34 e3 e7 e11 e12b e13 sa1 sb1 sc1 bP1 hN hdr cE
    obtain ⟨cE0, cE1, cE2⟩ := cells3 bE_2
    have fE := frozen_of_heap bE_2
    have lE := heap_lt bE_2
    go_upto_region 2 with fail
    have hk3 : Kp (fun k => k = be) w2 (((w2.setCell ⟨be, 0, none⟩ (.slice g1 xa.length t1)).setCell ⟨be, 1, none⟩ (.slice g2 xb.length t2)).setCell ⟨be, 2, none⟩ (.slice g3 x.length t3)) := (Kp.setCell (Kp.setCell (Kp.setCell (Kp.refl (fun k => k = be) _) (.inl rfl) _) (.inl rfl) _) (.inl rfl) _)
    have bE_3 : (((w2.setCell ⟨be, 0, none⟩ (.slice g1 xa.length t1)).setCell ⟨be, 1, none⟩ (.slice g2 xb.length t2)).setCell ⟨be, 2, none⟩ (.slice g3 x.length t3)).heap[be]? = some (.cells #[.slice g1 xa.length t1, .slice g2 xb.length t2, .slice g3 x.length t3] 26) := (setCell_heap (setCell_heap (setCell_heap bE_2 _) _) _)
    generalize (((w2.setCell ⟨be, 0, none⟩ (.slice g1 xa.length t1)).setCell ⟨be, 1, none⟩ (.slice g2 xb.length t2)).setCell ⟨be, 2, none⟩ (.slice g3 x.length t3)) = w3 at *
    have z3 := hk3.size
    have bR_3 := hk3.bo bR_2
    have oA_3 := Lib.hid (oA_2.out.kp hk3 (fun b e => by omega))
    have oB_3 := Lib.hid (oB_2.out.kp hk3 (fun b e => by omega))
    have oX_3 := Lib.hid (oX_2.out.kp hk3 (fun b e => by omega))
    have K3 : One br w w3 := one_on K2 hk3 (by omega)
    have r3 := r2.kp hk3
    clear cE0 cE1 cE2 fE lE
    clear bR_2 bE_2 oA_2 oB_2 oX_2 K2 r2 hk3
    by_cases hx0 : x.length = 0
    · have hxb0 : ((x.length : Int) == 0) = true := by simpa using hx0
      clear hx0
      obtain ⟨cE0, cE1, cE2⟩ := cells3 bE_3
      have lE := heap_lt bE_3
      obtain ⟨cR0, cR1, cR2⟩ := cells3 bR_3
      have fR := frozen_of_heap bR_3
      have lR := heap_lt bR_3
      go_wp2
      have hkz := setMany_kp (w.heap.size + 1) [.slice g1 xa.length t1, .slice g2 xb.length t2, .slice g3 x.length t3] w3 0
      have zs := setMany_size (w.heap.size + 1) [.slice g1 xa.length t1, .slice g2 xb.length t2, .slice g3 x.length t3] w3 0
      have hR := setMany_row [.slice g1 xa.length t1, .slice g2 xb.length t2, .slice g3 x.length t3] bR_3 rfl
      exact bodyPost_ret (results_cell_row rfl _ _ _ _ _ _ _ rfl hR Try.underlying26 rfl (by kernel_rfl)) rfl ⟨_, _, _, _, _, _, xa, xb, x, _, rfl, one_on K3 hkz (by omega), r3.keep hkz (fun b e => by omega), by omega, ((oA_3.out.kp hkz (fun b e => by omega)).mono (lo' := w.heap.size) (hi' := (setMany w3 (w.heap.size + 1) 0 [.slice g1 xa.length t1, .slice g2 xb.length t2, .slice g3 x.length t3]).heap.size) (by omega) (by omega)).reads, ((oB_3.out.kp hkz (fun b e => by omega)).mono (lo' := w.heap.size) (hi' := (setMany w3 (w.heap.size + 1) 0 [.slice g1 xa.length t1, .slice g2 xb.length t2, .slice g3 x.length t3]).heap.size) (by omega) (by omega)).reads, ((oX_3.out.kp hkz (fun b e => by omega)).mono (lo' := w.heap.size) (hi' := (setMany w3 (w.heap.size + 1) 0 [.slice g1 xa.length t1, .slice g2 xb.length t2, .slice g3 x.length t3]).heap.size) (by omega) (by omega)).reads, by simp, by simp, by simp⟩
    have hxb0 : ((x.length : Int) == 0) = false := by simpa using hx0
    have hxp : 0 < x.length := by omega
    obtain ⟨-, g, ge, gc0, gf0⟩ := own_cellsN oX_3.out.own hxp
    cases ge
    have ap1g := ap1.out g (ownBlock_at _ _ _)
    have ap2g := ap2.out g (ownBlock_at _ _ _)
    have hgl := hxl.out g (ownBlock_at _ _ _)
    have hgt := oX_3.out.top g (ownBlock_at _ _ _)
    have hgb := (oX_3.out.own.lt g (ownBlock_at _ _ _)).1
    clear gc0 gf0 ap1 ap2 hxl hx0
    obtain ⟨cE0, cE1, cE2⟩ := cells3 bE_3
    have lE := heap_lt bE_3
    go_wp2_with fail
    refine (pick w3 br (p) _ r3 (by omega)).mono ?_
    rintro e w4 ⟨u, rfl, u0, u1, u2, hn4, r4⟩
    have z4 := hn4.size
    have bR_4 := hn4.bo bR_3
    have bE_4 := hn4.bo bE_3
    have oA_4 := Lib.hid (oA_3.out.kp hn4 (fun b e => by omega))
    have oB_4 := Lib.hid (oB_3.out.kp hn4 (fun b e => by omega))
    have oX_4 := Lib.hid (oX_3.out.kp hn4 (fun b e => by omega))
    have K4 := K3.trans hn4
    clear cE0 cE1 cE2 lE
    clear bR_3 bE_3 oA_3 oB_3 oX_3 K3 r3 hn4
    clear u1 u2
    by_cases hu0 : u = 0
    · subst hu0
      obtain ⟨cE0, cE1, cE2⟩ := cells3 bE_4
      have fE := frozen_of_heap bE_4
      have lE := heap_lt bE_4
      go_wp2_with fail
      refine wp_region_tail (k := 7) (S := fun w' => w'.cell? ⟨be, 2, none⟩ = some (.slice (some ⟨g, 0, none⟩) x.length t3)) (by kernel_rfl) ?_ (fun hHeld => ?_)
      · exact cE2
      clear cE0 cE1 cE2 fE lE
      have hn5 : New w4 w4.drew := (Kp.refl _ _).drew
      generalize w4.drew = w5 at *
      have z5 := hn5.size
      have bR_5 := hn5.bk bR_4
      have bE_5 := hn5.bk bE_4
      have oA_5 := Lib.hid (oA_4.out.new (by omega) hn5)
      have oB_5 := Lib.hid (oB_4.out.new (by omega) hn5)
      have oX_5 := Lib.hid (oX_4.out.new (by omega) hn5)
      have K5 := K4.nw hn5
      have r5 := r4.nw hn5
      clear bR_4 bE_4 oA_4 oB_4 oX_4 K4 r4 hn5
      have cE2 := cell_of_heap bE_5 2
      have lE := heap_lt bE_5
      refine AnyK.tw 0 rfl ?_
      try simp only [AP]
      refine AnyK.tk 1 rfl ?_
      try simp only [AP]
      refine AnyK.tw 2 rfl ?_
      try simp only [AP]
      refine AnyK.step (i := 3) (by kernel_rfl) rfl (fun K hK => ?_)
      go_simp
      obtain ⟨hn6, y6, bN_6⟩ := newb w5 (.cells #[.int .i64 0, .int .i64 14, .int .i64 1, .int .i64 12] 3)
      generalize w5.alloc (.cells #[.int .i64 0, .int .i64 14, .int .i64 1, .int .i64 12] 3) = w6 at *
      have z6 := hn6.size
      have bR_6 := hn6.bk bR_5
      have bE_6 := hn6.bk bE_5
      have oA_6 := Lib.hid (oA_5.out.new (by omega) hn6)
      have oB_6 := Lib.hid (oB_5.out.new (by omega) hn6)
      have oX_6 := Lib.hid (oX_5.out.new (by omega) hn6)
      have K6 := K5.nw hn6
      have r6 := r5.nw hn6
      clear cE2 lE
      clear bR_5 bE_5 oA_5 oB_5 oX_5 K5 r5 hn6
      have cE2 := cell_of_heap bE_6 2
      have lE := heap_lt bE_6
      refine hK.out _ _ ?_ (fun hHeld2 => ?_)
      · exact cE2
      clear hK K hHeld
      have hHeld := hHeld2
      clear hHeld2
      try simp only [AP]
      refine AnyK.step (i := 4) (by kernel_rfl) rfl (fun K hK => ?_)
      go_simp
      have hNc := Lib.hid (fun i : Nat => cell_of_heap bN_6 i)
      have hNl := heap_lt bN_6
      have hNr := r6.lt
      refine (num w6 br (p + 1) (w5.heap.size) 4 _ (fun x => 0 ≤ x ∧ x ≤ 14) r6 (by omega) (by omega) (by omega) (by omega) ?_).mono ?_
      · intro i hi
        have hi2 := hNc.out i
        match i, hi with
        | 0, _ => exact ⟨_, by decide, hi2⟩
        | 1, _ => exact ⟨_, by decide, hi2⟩
        | 2, _ => exact ⟨_, by decide, hi2⟩
        | 3, _ => exact ⟨_, by decide, hi2⟩
      rintro e w7 ⟨y, rfl, ⟨y0, y1⟩, hn7, r7⟩
      clear hNc hNl hNr bN_6
      have z7 := hn7.size
      have bR_7 := hn7.bo bR_6
      have bE_7 := hn7.bo bE_6
      have oA_7 := Lib.hid (oA_6.out.kp hn7 (fun b e => by omega))
      have oB_7 := Lib.hid (oB_6.out.kp hn7 (fun b e => by omega))
      have oX_7 := Lib.hid (oX_6.out.kp hn7 (fun b e => by omega))
      have K7 := K6.trans hn7
      clear cE2 lE
      clear bR_6 bE_6 oA_6 oB_6 oX_6 K6 r6 hn7
      have cE2 := cell_of_heap bE_7 2
      have lE := heap_lt bE_7
      refine hK.out _ _ ?_ (fun hHeld2 => ?_)
      · exact cE2
      clear hK K hHeld
      have hHeld := hHeld2
      clear hHeld2
      try simp only [AP]
      refine AnyK.tw 5 rfl ?_
      try simp only [AP]
      refine AnyK.tw 6 rfl ?_
      try simp only [AP]
      refine AnyK.last (by kernel_rfl) ?_
      simp only [List.drop_succ_cons, List.drop_zero]
      clear hHeld
      clear cE2 lE
      obtain ⟨-, _, ge, gc, gf⟩ := own_cellsN oX_7.out.own hxp
      cases ge
      have hj : 0 < x.length := by omega
      obtain ⟨e0, gc1⟩ : ∃ e, w7.cell? ⟨g, 0, none⟩ = some e := ⟨_, gc 0 hj 0 (by decide)⟩
      have gf1 := gf (0)
      have gs : OwnF 5 encN (w7.setCell ⟨g, 0, none⟩ (.int .i64 (y))) l3 42 (.slice (some ⟨g, 0, none⟩) x.length t3) (x.set 0 (⟨y, (x[0]).a, (x[0]).b, (x[0]).c, (x[0]).d⟩)) := own_setT oX_7.out.own 0 hj 0 (by decide) (⟨y, (x[0]).a, (x[0]).b, (x[0]).c, (x[0]).d⟩) _ (fun q hq => by match q, hq with | 0, _ => rfl | 1, _ => rfl | 2, _ => rfl | 3, _ => rfl | 4, _ => rfl)
      have gsh := Lib.hid (OwnR.mk gs oX_7.out.top)
      have gl : (x.set 0 (⟨y, (x[0]).a, (x[0]).b, (x[0]).c, (x[0]).d⟩)).length = x.length := by rw [List.length_set]
      generalize x.set 0 (⟨y, (x[0]).a, (x[0]).b, (x[0]).c, (x[0]).d⟩) = x2 at *
      clear gs gc gf
      obtain ⟨cE0, cE1, cE2⟩ := cells3 bE_7
      have lE := heap_lt bE_7
      go_upto_region 18 with fail
      have hk8 : Kp (fun b => b = g) w7 (w7.setCell ⟨g, 0, none⟩ (.int .i64 (y))) := (Kp.refl (fun b => b = g) _).setCell (.inl rfl) _
      have oX_8 := gsh
      generalize (w7.setCell ⟨g, 0, none⟩ (.int .i64 (y))) = w8 at *
      clear gc1 gf1 gsh
      have z8 := hk8.size
      have bR_8 := hk8.bo bR_7
      have bE_8 := hk8.bo bE_7
      have oA_8 := Lib.hid (oA_7.out.kp hk8 (fun b e => by omega))
      have oB_8 := Lib.hid (oB_7.out.kp hk8 (fun b e => by omega))
      have K8 : One br w w8 := one_on K7 hk8 (by omega)
      have r8 := r7.kp hk8
      clear cE0 cE1 cE2 lE
      clear bR_7 bE_7 oA_7 oB_7 K7 r7 hk8
      clear oX_7
      obtain ⟨cE0, cE1, cE2⟩ := cells3 bE_8
      have lE := heap_lt bE_8
      obtain ⟨cR0, cR1, cR2⟩ := cells3 bR_8
      have fR := frozen_of_heap bR_8
      have lR := heap_lt bR_8
      go_wp2
      have hkz := setMany_kp (w.heap.size + 1) [.slice g1 xa.length t1, .slice g2 xb.length t2, .slice (some ⟨g, 0, none⟩) x.length t3] w8 0
      have zs := setMany_size (w.heap.size + 1) [.slice g1 xa.length t1, .slice g2 xb.length t2, .slice (some ⟨g, 0, none⟩) x.length t3] w8 0
      have hR := setMany_row [.slice g1 xa.length t1, .slice g2 xb.length t2, .slice (some ⟨g, 0, none⟩) x.length t3] bR_8 rfl
      exact bodyPost_ret (results_cell_row rfl _ _ _ _ _ _ _ rfl hR Try.underlying26 rfl (by kernel_rfl)) rfl ⟨_, _, some ⟨g, 0, none⟩, _, _, t3, xa, xb, x2, _, (by rw [gl]), one_on K8 hkz (by omega), r8.keep hkz (fun b e => by omega), by omega, ((oA_8.out.kp hkz (fun b e => by omega)).mono (lo' := w.heap.size) (hi' := (setMany w8 (w.heap.size + 1) 0 [.slice g1 xa.length t1, .slice g2 xb.length t2, .slice (some ⟨g, 0, none⟩) x.length t3]).heap.size) (by omega) (by omega)).reads, ((oB_8.out.kp hkz (fun b e => by omega)).mono (lo' := w.heap.size) (hi' := (setMany w8 (w.heap.size + 1) 0 [.slice g1 xa.length t1, .slice g2 xb.length t2, .slice (some ⟨g, 0, none⟩) x.length t3]).heap.size) (by omega) (by omega)).reads, (by have t1 := ((oX_8.out.kp hkz (fun b e => by omega)).mono (lo' := w.heap.size) (hi' := (setMany w8 (w.heap.size + 1) 0 [.slice g1 xa.length t1, .slice g2 xb.length t2, .slice (some ⟨g, 0, none⟩) x.length t3]).heap.size) (by omega) (by omega)).reads; rw [gl]; exact t1), by simp, by simp, by omega⟩
    have hv0 : (u == 0) = false := by simpa using hu0
    by_cases hu1 : u = 1
    · subst hu1
      obtain ⟨cE0, cE1, cE2⟩ := cells3 bE_4
      have fE := frozen_of_heap bE_4
      have lE := heap_lt bE_4
      go_wp2_with fail
      refine wp_region_tail (k := 10) (S := fun w' => w'.cell? ⟨be, 2, none⟩ = some (.slice (some ⟨g, 0, none⟩) x.length t3)) (by kernel_rfl) ?_ (fun hHeld => ?_)
      · exact cE2
      clear cE0 cE1 cE2 fE lE
      have hn5 : New w4 w4.drew := (Kp.refl _ _).drew
      generalize w4.drew = w5 at *
      have z5 := hn5.size
      have bR_5 := hn5.bk bR_4
      have bE_5 := hn5.bk bE_4
      have oA_5 := Lib.hid (oA_4.out.new (by omega) hn5)
      have oB_5 := Lib.hid (oB_4.out.new (by omega) hn5)
      have oX_5 := Lib.hid (oX_4.out.new (by omega) hn5)
      have K5 := K4.nw hn5
      have r5 := r4.nw hn5
      clear bR_4 bE_4 oA_4 oB_4 oX_4 K4 r4 hn5
      have cE2 := cell_of_heap bE_5 2
      have lE := heap_lt bE_5
      refine AnyK.tw 0 rfl ?_
      try simp only [AP]
      refine AnyK.tk 1 rfl ?_
      try simp only [AP]
      refine AnyK.tw 2 rfl ?_
      try simp only [AP]
      refine AnyK.tw 3 rfl ?_
      try simp only [AP]
      refine AnyK.tw 5 rfl ?_
      try simp only [AP]
      refine AnyK.two (i := 4) (j := 6) (by kernel_rfl) rfl rfl (fun K hK => ?_) (fun K hK => ?_)
      · go_simp
        refine (pick w5 br (p + 1) _ r5 (by omega)).mono ?_
        rintro e w6 ⟨v, rfl, v0, v1, v2, hn6, r6⟩
        have z6 := hn6.size
        have bR_6 := hn6.bo bR_5
        have bE_6 := hn6.bo bE_5
        have oA_6 := Lib.hid (oA_5.out.kp hn6 (fun b e => by omega))
        have oB_6 := Lib.hid (oB_5.out.kp hn6 (fun b e => by omega))
        have oX_6 := Lib.hid (oX_5.out.kp hn6 (fun b e => by omega))
        have K6 := K5.trans hn6
        clear cE2 lE
        clear bR_5 bE_5 oA_5 oB_5 oX_5 K5 r5 hn6
        have v9 : v < x.length := v1 (by omega)
        clear v1 v2
        obtain ⟨j, rfl⟩ : ∃ j : Nat, v = j := ⟨v.toNat, by omega⟩
        have cE2 := cell_of_heap bE_6 2
        have lE := heap_lt bE_6
        refine hK.out _ _ ?_ (fun hHeld2 => ?_)
        · exact cE2
        clear hK K hHeld
        have hHeld := hHeld2
        clear hHeld2
        try simp only [AP]
        refine AnyK.step (i := 6) (by kernel_rfl) rfl (fun K hK => ?_)
        go_simp
        obtain ⟨hn7, y7, bN_7⟩ := newb w6 (.cells #[.int .i64 (-1), .int .i64 14, .int .i64 0, .int .i64 400] 3)
        generalize w6.alloc (.cells #[.int .i64 (-1), .int .i64 14, .int .i64 0, .int .i64 400] 3) = w7 at *
        have z7 := hn7.size
        have bR_7 := hn7.bk bR_6
        have bE_7 := hn7.bk bE_6
        have oA_7 := Lib.hid (oA_6.out.new (by omega) hn7)
        have oB_7 := Lib.hid (oB_6.out.new (by omega) hn7)
        have oX_7 := Lib.hid (oX_6.out.new (by omega) hn7)
        have K7 := K6.nw hn7
        have r7 := r6.nw hn7
        clear cE2 lE
        clear bR_6 bE_6 oA_6 oB_6 oX_6 K6 r6 hn7
        have cE2 := cell_of_heap bE_7 2
        have lE := heap_lt bE_7
        refine hK.out _ _ ?_ (fun hHeld2 => ?_)
        · exact cE2
        clear hK K hHeld
        have hHeld := hHeld2
        clear hHeld2
        try simp only [AP]
        refine AnyK.step (i := 7) (by kernel_rfl) rfl (fun K hK => ?_)
        go_simp
        have hNc := Lib.hid (fun i : Nat => cell_of_heap bN_7 i)
        have hNl := heap_lt bN_7
        have hNr := r7.lt
        refine (num w7 br (p + 1 + 1) (w6.heap.size) 4 _ (fun x => -1 ≤ x ∧ x ≤ 400) r7 (by omega) (by omega) (by omega) (by omega) ?_).mono ?_
        · intro i hi
          have hi2 := hNc.out i
          match i, hi with
          | 0, _ => exact ⟨_, by decide, hi2⟩
          | 1, _ => exact ⟨_, by decide, hi2⟩
          | 2, _ => exact ⟨_, by decide, hi2⟩
          | 3, _ => exact ⟨_, by decide, hi2⟩
        rintro e w8 ⟨y, rfl, ⟨y0, y1⟩, hn8, r8⟩
        clear hNc hNl hNr bN_7
        have z8 := hn8.size
        have bR_8 := hn8.bo bR_7
        have bE_8 := hn8.bo bE_7
        have oA_8 := Lib.hid (oA_7.out.kp hn8 (fun b e => by omega))
        have oB_8 := Lib.hid (oB_7.out.kp hn8 (fun b e => by omega))
        have oX_8 := Lib.hid (oX_7.out.kp hn8 (fun b e => by omega))
        have K8 := K7.trans hn8
        clear cE2 lE
        clear bR_7 bE_7 oA_7 oB_7 oX_7 K7 r7 hn8
        have cE2 := cell_of_heap bE_8 2
        have lE := heap_lt bE_8
        refine hK.out _ _ ?_ (fun hHeld2 => ?_)
        · exact cE2
        clear hK K hHeld
        have hHeld := hHeld2
        clear hHeld2
        try simp only [AP]
        refine AnyK.tw 8 rfl ?_
        try simp only [AP]
        refine AnyK.tw 9 rfl ?_
        try simp only [AP]
        refine AnyK.last (by kernel_rfl) ?_
        simp only [List.drop_succ_cons, List.drop_zero]
        clear hHeld
        clear cE2 lE
        obtain ⟨-, _, ge, gc, gf⟩ := own_cellsN oX_8.out.own hxp
        cases ge
        have hj : j < x.length := by omega
        obtain ⟨e0, gc1⟩ : ∃ e, w8.cell? ⟨g, j * 5 + 1, none⟩ = some e := ⟨_, gc j hj 1 (by decide)⟩
        have gf1 := gf (j * 5 + 1)
        have gs : OwnF 5 encN (w8.setCell ⟨g, j * 5 + 1, none⟩ (.int .i64 (y))) l3 42 (.slice (some ⟨g, 0, none⟩) x.length t3) (x.set j (⟨(x[j]).op, y, (x[j]).b, (x[j]).c, (x[j]).d⟩)) := own_setT oX_8.out.own j hj 1 (by decide) (⟨(x[j]).op, y, (x[j]).b, (x[j]).c, (x[j]).d⟩) _ (fun q hq => by match q, hq with | 0, _ => rfl | 1, _ => rfl | 2, _ => rfl | 3, _ => rfl | 4, _ => rfl)
        have gsh := Lib.hid (OwnR.mk gs oX_8.out.top)
        have gl : (x.set j (⟨(x[j]).op, y, (x[j]).b, (x[j]).c, (x[j]).d⟩)).length = x.length := by rw [List.length_set]
        generalize x.set j (⟨(x[j]).op, y, (x[j]).b, (x[j]).c, (x[j]).d⟩) = x2 at *
        clear gs gc gf
        obtain ⟨cE0, cE1, cE2⟩ := cells3 bE_8
        have lE := heap_lt bE_8
        go_upto_region 18 with fail
        have hk9 : Kp (fun b => b = g) w8 (w8.setCell ⟨g, j * 5 + 1, none⟩ (.int .i64 (y))) := (Kp.refl (fun b => b = g) _).setCell (.inl rfl) _
        have oX_9 := gsh
        generalize (w8.setCell ⟨g, j * 5 + 1, none⟩ (.int .i64 (y))) = w9 at *
        clear gc1 gf1 gsh
        have z9 := hk9.size
        have bR_9 := hk9.bo bR_8
        have bE_9 := hk9.bo bE_8
        have oA_9 := Lib.hid (oA_8.out.kp hk9 (fun b e => by omega))
        have oB_9 := Lib.hid (oB_8.out.kp hk9 (fun b e => by omega))
        have K9 : One br w w9 := one_on K8 hk9 (by omega)
        have r9 := r8.kp hk9
        clear cE0 cE1 cE2 lE
        clear bR_8 bE_8 oA_8 oB_8 K8 r8 hk9
        clear oX_8
        obtain ⟨cE0, cE1, cE2⟩ := cells3 bE_9
        have lE := heap_lt bE_9
        obtain ⟨cR0, cR1, cR2⟩ := cells3 bR_9
        have fR := frozen_of_heap bR_9
        have lR := heap_lt bR_9
        go_wp2
        have hkz := setMany_kp (w.heap.size + 1) [.slice g1 xa.length t1, .slice g2 xb.length t2, .slice (some ⟨g, 0, none⟩) x.length t3] w9 0
        have zs := setMany_size (w.heap.size + 1) [.slice g1 xa.length t1, .slice g2 xb.length t2, .slice (some ⟨g, 0, none⟩) x.length t3] w9 0
        have hR := setMany_row [.slice g1 xa.length t1, .slice g2 xb.length t2, .slice (some ⟨g, 0, none⟩) x.length t3] bR_9 rfl
        exact bodyPost_ret (results_cell_row rfl _ _ _ _ _ _ _ rfl hR Try.underlying26 rfl (by kernel_rfl)) rfl ⟨_, _, some ⟨g, 0, none⟩, _, _, t3, xa, xb, x2, _, (by rw [gl]), one_on K9 hkz (by omega), r9.keep hkz (fun b e => by omega), by omega, ((oA_9.out.kp hkz (fun b e => by omega)).mono (lo' := w.heap.size) (hi' := (setMany w9 (w.heap.size + 1) 0 [.slice g1 xa.length t1, .slice g2 xb.length t2, .slice (some ⟨g, 0, none⟩) x.length t3]).heap.size) (by omega) (by omega)).reads, ((oB_9.out.kp hkz (fun b e => by omega)).mono (lo' := w.heap.size) (hi' := (setMany w9 (w.heap.size + 1) 0 [.slice g1 xa.length t1, .slice g2 xb.length t2, .slice (some ⟨g, 0, none⟩) x.length t3]).heap.size) (by omega) (by omega)).reads, (by have t1 := ((oX_9.out.kp hkz (fun b e => by omega)).mono (lo' := w.heap.size) (hi' := (setMany w9 (w.heap.size + 1) 0 [.slice g1 xa.length t1, .slice g2 xb.length t2, .slice (some ⟨g, 0, none⟩) x.length t3]).heap.size) (by omega) (by omega)).reads; rw [gl]; exact t1), by simp, by simp, by omega⟩
      · go_simp
        obtain ⟨hn6, y6, bN_6⟩ := newb w5 (.cells #[.int .i64 (-1), .int .i64 14, .int .i64 0, .int .i64 400] 3)
        generalize w5.alloc (.cells #[.int .i64 (-1), .int .i64 14, .int .i64 0, .int .i64 400] 3) = w6 at *
        have z6 := hn6.size
        have bR_6 := hn6.bk bR_5
        have bE_6 := hn6.bk bE_5
        have oA_6 := Lib.hid (oA_5.out.new (by omega) hn6)
        have oB_6 := Lib.hid (oB_5.out.new (by omega) hn6)
        have oX_6 := Lib.hid (oX_5.out.new (by omega) hn6)
        have K6 := K5.nw hn6
        have r6 := r5.nw hn6
        clear cE2 lE
        clear bR_5 bE_5 oA_5 oB_5 oX_5 K5 r5 hn6
        have cE2 := cell_of_heap bE_6 2
        have lE := heap_lt bE_6
        refine hK.out _ _ ?_ (fun hHeld2 => ?_)
        · exact cE2
        clear hK K hHeld
        have hHeld := hHeld2
        clear hHeld2
        try simp only [AP]
        refine AnyK.step (i := 4) (by kernel_rfl) rfl (fun K hK => ?_)
        go_simp
        refine (pick w6 br (p + 1) _ r6 (by omega)).mono ?_
        rintro e w7 ⟨v, rfl, v0, v1, v2, hn7, r7⟩
        have z7 := hn7.size
        have bR_7 := hn7.bo bR_6
        have bE_7 := hn7.bo bE_6
        have bN_7 := hn7.bo bN_6
        have oA_7 := Lib.hid (oA_6.out.kp hn7 (fun b e => by omega))
        have oB_7 := Lib.hid (oB_6.out.kp hn7 (fun b e => by omega))
        have oX_7 := Lib.hid (oX_6.out.kp hn7 (fun b e => by omega))
        have K7 := K6.trans hn7
        clear cE2 lE
        clear bR_6 bE_6 bN_6 oA_6 oB_6 oX_6 K6 r6 hn7
        have v9 : v < x.length := v1 (by omega)
        clear v1 v2
        obtain ⟨j, rfl⟩ : ∃ j : Nat, v = j := ⟨v.toNat, by omega⟩
        have cE2 := cell_of_heap bE_7 2
        have lE := heap_lt bE_7
        refine hK.out _ _ ?_ (fun hHeld2 => ?_)
        · exact cE2
        clear hK K hHeld
        have hHeld := hHeld2
        clear hHeld2
        try simp only [AP]
        refine AnyK.step (i := 7) (by kernel_rfl) rfl (fun K hK => ?_)
        go_simp
        have hNc := Lib.hid (fun i : Nat => cell_of_heap bN_7 i)
        have hNl := heap_lt bN_7
        have hNr := r7.lt
        refine (num w7 br (p + 1 + 1) (w5.heap.size) 4 _ (fun x => -1 ≤ x ∧ x ≤ 400) r7 (by omega) (by omega) (by omega) (by omega) ?_).mono ?_
        · intro i hi
          have hi2 := hNc.out i
          match i, hi with
          | 0, _ => exact ⟨_, by decide, hi2⟩
          | 1, _ => exact ⟨_, by decide, hi2⟩
          | 2, _ => exact ⟨_, by decide, hi2⟩
          | 3, _ => exact ⟨_, by decide, hi2⟩
        rintro e w8 ⟨y, rfl, ⟨y0, y1⟩, hn8, r8⟩
        clear hNc hNl hNr bN_7
        have z8 := hn8.size
        have bR_8 := hn8.bo bR_7
        have bE_8 := hn8.bo bE_7
        have oA_8 := Lib.hid (oA_7.out.kp hn8 (fun b e => by omega))
        have oB_8 := Lib.hid (oB_7.out.kp hn8 (fun b e => by omega))
        have oX_8 := Lib.hid (oX_7.out.kp hn8 (fun b e => by omega))
        have K8 := K7.trans hn8
        clear cE2 lE
        clear bR_7 bE_7 oA_7 oB_7 oX_7 K7 r7 hn8
        have cE2 := cell_of_heap bE_8 2
        have lE := heap_lt bE_8
        refine hK.out _ _ ?_ (fun hHeld2 => ?_)
        · exact cE2
        clear hK K hHeld
        have hHeld := hHeld2
        clear hHeld2
        try simp only [AP]
        refine AnyK.tw 8 rfl ?_
        try simp only [AP]
        refine AnyK.tw 9 rfl ?_
        try simp only [AP]
        refine AnyK.last (by kernel_rfl) ?_
        simp only [List.drop_succ_cons, List.drop_zero]
        clear hHeld
        clear cE2 lE
        obtain ⟨-, _, ge, gc, gf⟩ := own_cellsN oX_8.out.own hxp
        cases ge
        have hj : j < x.length := by omega
        obtain ⟨e0, gc1⟩ : ∃ e, w8.cell? ⟨g, j * 5 + 1, none⟩ = some e := ⟨_, gc j hj 1 (by decide)⟩
        have gf1 := gf (j * 5 + 1)
        have gs : OwnF 5 encN (w8.setCell ⟨g, j * 5 + 1, none⟩ (.int .i64 (y))) l3 42 (.slice (some ⟨g, 0, none⟩) x.length t3) (x.set j (⟨(x[j]).op, y, (x[j]).b, (x[j]).c, (x[j]).d⟩)) := own_setT oX_8.out.own j hj 1 (by decide) (⟨(x[j]).op, y, (x[j]).b, (x[j]).c, (x[j]).d⟩) _ (fun q hq => by match q, hq with | 0, _ => rfl | 1, _ => rfl | 2, _ => rfl | 3, _ => rfl | 4, _ => rfl)
        have gsh := Lib.hid (OwnR.mk gs oX_8.out.top)
        have gl : (x.set j (⟨(x[j]).op, y, (x[j]).b, (x[j]).c, (x[j]).d⟩)).length = x.length := by rw [List.length_set]
        generalize x.set j (⟨(x[j]).op, y, (x[j]).b, (x[j]).c, (x[j]).d⟩) = x2 at *
        clear gs gc gf
        obtain ⟨cE0, cE1, cE2⟩ := cells3 bE_8
        have lE := heap_lt bE_8
        go_upto_region 18 with fail
        have hk9 : Kp (fun b => b = g) w8 (w8.setCell ⟨g, j * 5 + 1, none⟩ (.int .i64 (y))) := (Kp.refl (fun b => b = g) _).setCell (.inl rfl) _
        have oX_9 := gsh
        generalize (w8.setCell ⟨g, j * 5 + 1, none⟩ (.int .i64 (y))) = w9 at *
        clear gc1 gf1 gsh
        have z9 := hk9.size
        have bR_9 := hk9.bo bR_8
        have bE_9 := hk9.bo bE_8
        have oA_9 := Lib.hid (oA_8.out.kp hk9 (fun b e => by omega))
        have oB_9 := Lib.hid (oB_8.out.kp hk9 (fun b e => by omega))
        have K9 : One br w w9 := one_on K8 hk9 (by omega)
        have r9 := r8.kp hk9
        clear cE0 cE1 cE2 lE
        clear bR_8 bE_8 oA_8 oB_8 K8 r8 hk9
        clear oX_8
        obtain ⟨cE0, cE1, cE2⟩ := cells3 bE_9
        have lE := heap_lt bE_9
        obtain ⟨cR0, cR1, cR2⟩ := cells3 bR_9
        have fR := frozen_of_heap bR_9
        have lR := heap_lt bR_9
        go_wp2
        have hkz := setMany_kp (w.heap.size + 1) [.slice g1 xa.length t1, .slice g2 xb.length t2, .slice (some ⟨g, 0, none⟩) x.length t3] w9 0
        have zs := setMany_size (w.heap.size + 1) [.slice g1 xa.length t1, .slice g2 xb.length t2, .slice (some ⟨g, 0, none⟩) x.length t3] w9 0
        have hR := setMany_row [.slice g1 xa.length t1, .slice g2 xb.length t2, .slice (some ⟨g, 0, none⟩) x.length t3] bR_9 rfl
        exact bodyPost_ret (results_cell_row rfl _ _ _ _ _ _ _ rfl hR Try.underlying26 rfl (by kernel_rfl)) rfl ⟨_, _, some ⟨g, 0, none⟩, _, _, t3, xa, xb, x2, _, (by rw [gl]), one_on K9 hkz (by omega), r9.keep hkz (fun b e => by omega), by omega, ((oA_9.out.kp hkz (fun b e => by omega)).mono (lo' := w.heap.size) (hi' := (setMany w9 (w.heap.size + 1) 0 [.slice g1 xa.length t1, .slice g2 xb.length t2, .slice (some ⟨g, 0, none⟩) x.length t3]).heap.size) (by omega) (by omega)).reads, ((oB_9.out.kp hkz (fun b e => by omega)).mono (lo' := w.heap.size) (hi' := (setMany w9 (w.heap.size + 1) 0 [.slice g1 xa.length t1, .slice g2 xb.length t2, .slice (some ⟨g, 0, none⟩) x.length t3]).heap.size) (by omega) (by omega)).reads, (by have t1 := ((oX_9.out.kp hkz (fun b e => by omega)).mono (lo' := w.heap.size) (hi' := (setMany w9 (w.heap.size + 1) 0 [.slice g1 xa.length t1, .slice g2 xb.length t2, .slice (some ⟨g, 0, none⟩) x.length t3]).heap.size) (by omega) (by omega)).reads; rw [gl]; exact t1), by simp, by simp, by omega⟩
    have hv1 : (u == 1) = false := by simpa using hu1
    by_cases hu2 : u = 2
    · subst hu2
      obtain ⟨m, hm⟩ : ∃ m, x.length = m + 1 := ⟨x.length - 1, by omega⟩
      have hwm : IntKind.i64.wrap ((x.length : Int) - 1) = (m : Int) := by rw [IntWalk.i64_in _ (by omega)]; omega
      have hmh := Lib.hid hm
      have hj : m < x.length := by omega
      clear hm
      obtain ⟨-, _, ge, gc, gf⟩ := own_cellsN oX_4.out.own hxp
      cases ge
      obtain ⟨e0, gc0⟩ : ∃ e, w4.cell? ⟨g, m * 5, none⟩ = some e := ⟨_, gc m hj 0 (by decide)⟩
      obtain ⟨e1, gc1⟩ : ∃ e, w4.cell? ⟨g, m * 5 + 1, none⟩ = some e := ⟨_, gc m hj 1 (by decide)⟩
      obtain ⟨e2, gc2⟩ : ∃ e, w4.cell? ⟨g, m * 5 + 2, none⟩ = some e := ⟨_, gc m hj 2 (by decide)⟩
      obtain ⟨e3, gc3⟩ : ∃ e, w4.cell? ⟨g, m * 5 + 3, none⟩ = some e := ⟨_, gc m hj 3 (by decide)⟩
      obtain ⟨e4, gc4⟩ : ∃ e, w4.cell? ⟨g, m * 5 + 4, none⟩ = some e := ⟨_, gc m hj 4 (by decide)⟩
      have gf0 := gf (m * 5)
      have gf1 := gf (m * 5 + 1)
      have gf2 := gf (m * 5 + 2)
      have gf3 := gf (m * 5 + 3)
      have gf4 := gf (m * 5 + 4)
      have gs : OwnF 5 encN (((((w4.setCell ⟨g, m * 5, none⟩ (.int .i64 12)).setCell ⟨g, m * 5 + 1, none⟩ (.int .i64 0)).setCell ⟨g, m * 5 + 2, none⟩ (.int .i64 0)).setCell ⟨g, m * 5 + 3, none⟩ (.int .i64 0)).setCell ⟨g, m * 5 + 4, none⟩ (.int .i64 0)) l3 42 (.slice (some ⟨g, 0, none⟩) x.length t3) (x.set m ⟨12, 0, 0, 0, 0⟩) := own_set5 oX_4.out.own m hj ⟨12, 0, 0, 0, 0⟩
      have gsh := Lib.hid (OwnR.mk gs oX_4.out.top)
      have gl : (x.set m ⟨12, 0, 0, 0, 0⟩).length = x.length := by rw [List.length_set]
      generalize x.set m ⟨12, 0, 0, 0, 0⟩ = x2 at *
      clear gs gc gf
      obtain ⟨cE0, cE1, cE2⟩ := cells3 bE_4
      have lE := heap_lt bE_4
      go_upto_region 18 with fail
      have hk5 : Kp (fun b => b = g) w4 (((((w4.setCell ⟨g, m * 5, none⟩ (.int .i64 12)).setCell ⟨g, m * 5 + 1, none⟩ (.int .i64 0)).setCell ⟨g, m * 5 + 2, none⟩ (.int .i64 0)).setCell ⟨g, m * 5 + 3, none⟩ (.int .i64 0)).setCell ⟨g, m * 5 + 4, none⟩ (.int .i64 0)) := ((((((Kp.refl (fun b => b = g) _).setCell (.inl rfl) _).setCell (.inl rfl) _).setCell (.inl rfl) _).setCell (.inl rfl) _).setCell (.inl rfl) _)
      have oX_5 := gsh
      generalize (((((w4.setCell ⟨g, m * 5, none⟩ (.int .i64 12)).setCell ⟨g, m * 5 + 1, none⟩ (.int .i64 0)).setCell ⟨g, m * 5 + 2, none⟩ (.int .i64 0)).setCell ⟨g, m * 5 + 3, none⟩ (.int .i64 0)).setCell ⟨g, m * 5 + 4, none⟩ (.int .i64 0)) = w5 at *
      clear gsh gc0 gf0 gc1 gf1 gc2 gf2 gc3 gf3 gc4 gf4
      have z5 := hk5.size
      have bR_5 := hk5.bo bR_4
      have bE_5 := hk5.bo bE_4
      have oA_5 := Lib.hid (oA_4.out.kp hk5 (fun b e => by omega))
      have oB_5 := Lib.hid (oB_4.out.kp hk5 (fun b e => by omega))
      have K5 : One br w w5 := one_on K4 hk5 (by omega)
      have r5 := r4.kp hk5
      clear cE0 cE1 cE2 lE
      clear bR_4 bE_4 oA_4 oB_4 K4 r4 hk5
      clear oX_4
      obtain ⟨cE0, cE1, cE2⟩ := cells3 bE_5
      have lE := heap_lt bE_5
      obtain ⟨cR0, cR1, cR2⟩ := cells3 bR_5
      have fR := frozen_of_heap bR_5
      have lR := heap_lt bR_5
      go_wp2
      have hkz := setMany_kp (w.heap.size + 1) [.slice g1 xa.length t1, .slice g2 xb.length t2, .slice (some ⟨g, 0, none⟩) x.length t3] w5 0
      have zs := setMany_size (w.heap.size + 1) [.slice g1 xa.length t1, .slice g2 xb.length t2, .slice (some ⟨g, 0, none⟩) x.length t3] w5 0
      have hR := setMany_row [.slice g1 xa.length t1, .slice g2 xb.length t2, .slice (some ⟨g, 0, none⟩) x.length t3] bR_5 rfl
      exact bodyPost_ret (results_cell_row rfl _ _ _ _ _ _ _ rfl hR Try.underlying26 rfl (by kernel_rfl)) rfl ⟨_, _, some ⟨g, 0, none⟩, _, _, t3, xa, xb, x2, _, (by rw [gl]), one_on K5 hkz (by omega), r5.keep hkz (fun b e => by omega), by omega, ((oA_5.out.kp hkz (fun b e => by omega)).mono (lo' := w.heap.size) (hi' := (setMany w5 (w.heap.size + 1) 0 [.slice g1 xa.length t1, .slice g2 xb.length t2, .slice (some ⟨g, 0, none⟩) x.length t3]).heap.size) (by omega) (by omega)).reads, ((oB_5.out.kp hkz (fun b e => by omega)).mono (lo' := w.heap.size) (hi' := (setMany w5 (w.heap.size + 1) 0 [.slice g1 xa.length t1, .slice g2 xb.length t2, .slice (some ⟨g, 0, none⟩) x.length t3]).heap.size) (by omega) (by omega)).reads, (by have t1 := ((oX_5.out.kp hkz (fun b e => by omega)).mono (lo' := w.heap.size) (hi' := (setMany w5 (w.heap.size + 1) 0 [.slice g1 xa.length t1, .slice g2 xb.length t2, .slice (some ⟨g, 0, none⟩) x.length t3]).heap.size) (by omega) (by omega)).reads; rw [gl]; exact t1), by simp, by simp, by omega⟩
    have hv2 : (u == 2) = false := by simpa using hu2
    by_cases hu3 : u = 3
    · subst hu3
      obtain ⟨m, hm⟩ : ∃ m, x.length = m + 1 := ⟨x.length - 1, by omega⟩
      have hwm : IntKind.i64.wrap ((x.length : Int) - 1) = (m : Int) := by rw [IntWalk.i64_in _ (by omega)]; omega
      have hmh := Lib.hid hm
      have hj : m < x.length := by omega
      clear hm
      obtain ⟨-, _, ge, gc, gf⟩ := own_cellsN oX_4.out.own hxp
      cases ge
      obtain ⟨e0, gc0⟩ : ∃ e, w4.cell? ⟨g, m * 5, none⟩ = some e := ⟨_, gc m hj 0 (by decide)⟩
      obtain ⟨e1, gc1⟩ : ∃ e, w4.cell? ⟨g, m * 5 + 1, none⟩ = some e := ⟨_, gc m hj 1 (by decide)⟩
      obtain ⟨e2, gc2⟩ : ∃ e, w4.cell? ⟨g, m * 5 + 2, none⟩ = some e := ⟨_, gc m hj 2 (by decide)⟩
      obtain ⟨e3, gc3⟩ : ∃ e, w4.cell? ⟨g, m * 5 + 3, none⟩ = some e := ⟨_, gc m hj 3 (by decide)⟩
      obtain ⟨e4, gc4⟩ : ∃ e, w4.cell? ⟨g, m * 5 + 4, none⟩ = some e := ⟨_, gc m hj 4 (by decide)⟩
      have gf0 := gf (m * 5)
      have gf1 := gf (m * 5 + 1)
      have gf2 := gf (m * 5 + 2)
      have gf3 := gf (m * 5 + 3)
      have gf4 := gf (m * 5 + 4)
      have gs : OwnF 5 encN (((((w4.setCell ⟨g, m * 5, none⟩ (.int .i64 8)).setCell ⟨g, m * 5 + 1, none⟩ (.int .i64 0)).setCell ⟨g, m * 5 + 2, none⟩ (.int .i64 0)).setCell ⟨g, m * 5 + 3, none⟩ (.int .i64 0)).setCell ⟨g, m * 5 + 4, none⟩ (.int .i64 0)) l3 42 (.slice (some ⟨g, 0, none⟩) x.length t3) (x.set m ⟨8, 0, 0, 0, 0⟩) := own_set5 oX_4.out.own m hj ⟨8, 0, 0, 0, 0⟩
      have gsh := Lib.hid (OwnR.mk gs oX_4.out.top)
      have gl : (x.set m ⟨8, 0, 0, 0, 0⟩).length = x.length := by rw [List.length_set]
      generalize x.set m ⟨8, 0, 0, 0, 0⟩ = x2 at *
      clear gs gc gf
      obtain ⟨cE0, cE1, cE2⟩ := cells3 bE_4
      have lE := heap_lt bE_4
      go_upto_region 18 with fail
      have hk5 : Kp (fun b => b = g) w4 (((((w4.setCell ⟨g, m * 5, none⟩ (.int .i64 8)).setCell ⟨g, m * 5 + 1, none⟩ (.int .i64 0)).setCell ⟨g, m * 5 + 2, none⟩ (.int .i64 0)).setCell ⟨g, m * 5 + 3, none⟩ (.int .i64 0)).setCell ⟨g, m * 5 + 4, none⟩ (.int .i64 0)) := ((((((Kp.refl (fun b => b = g) _).setCell (.inl rfl) _).setCell (.inl rfl) _).setCell (.inl rfl) _).setCell (.inl rfl) _).setCell (.inl rfl) _)
      have oX_5 := gsh
      generalize (((((w4.setCell ⟨g, m * 5, none⟩ (.int .i64 8)).setCell ⟨g, m * 5 + 1, none⟩ (.int .i64 0)).setCell ⟨g, m * 5 + 2, none⟩ (.int .i64 0)).setCell ⟨g, m * 5 + 3, none⟩ (.int .i64 0)).setCell ⟨g, m * 5 + 4, none⟩ (.int .i64 0)) = w5 at *
      clear gsh gc0 gf0 gc1 gf1 gc2 gf2 gc3 gf3 gc4 gf4
      have z5 := hk5.size
      have bR_5 := hk5.bo bR_4
      have bE_5 := hk5.bo bE_4
      have oA_5 := Lib.hid (oA_4.out.kp hk5 (fun b e => by omega))
      have oB_5 := Lib.hid (oB_4.out.kp hk5 (fun b e => by omega))
      have K5 : One br w w5 := one_on K4 hk5 (by omega)
      have r5 := r4.kp hk5
      clear cE0 cE1 cE2 lE
      clear bR_4 bE_4 oA_4 oB_4 K4 r4 hk5
      clear oX_4
      obtain ⟨cE0, cE1, cE2⟩ := cells3 bE_5
      have lE := heap_lt bE_5
      obtain ⟨cR0, cR1, cR2⟩ := cells3 bR_5
      have fR := frozen_of_heap bR_5
      have lR := heap_lt bR_5
      go_wp2
      have hkz := setMany_kp (w.heap.size + 1) [.slice g1 xa.length t1, .slice g2 xb.length t2, .slice (some ⟨g, 0, none⟩) x.length t3] w5 0
      have zs := setMany_size (w.heap.size + 1) [.slice g1 xa.length t1, .slice g2 xb.length t2, .slice (some ⟨g, 0, none⟩) x.length t3] w5 0
      have hR := setMany_row [.slice g1 xa.length t1, .slice g2 xb.length t2, .slice (some ⟨g, 0, none⟩) x.length t3] bR_5 rfl
      exact bodyPost_ret (results_cell_row rfl _ _ _ _ _ _ _ rfl hR Try.underlying26 rfl (by kernel_rfl)) rfl ⟨_, _, some ⟨g, 0, none⟩, _, _, t3, xa, xb, x2, _, (by rw [gl]), one_on K5 hkz (by omega), r5.keep hkz (fun b e => by omega), by omega, ((oA_5.out.kp hkz (fun b e => by omega)).mono (lo' := w.heap.size) (hi' := (setMany w5 (w.heap.size + 1) 0 [.slice g1 xa.length t1, .slice g2 xb.length t2, .slice (some ⟨g, 0, none⟩) x.length t3]).heap.size) (by omega) (by omega)).reads, ((oB_5.out.kp hkz (fun b e => by omega)).mono (lo' := w.heap.size) (hi' := (setMany w5 (w.heap.size + 1) 0 [.slice g1 xa.length t1, .slice g2 xb.length t2, .slice (some ⟨g, 0, none⟩) x.length t3]).heap.size) (by omega) (by omega)).reads, (by have t1 := ((oX_5.out.kp hkz (fun b e => by omega)).mono (lo' := w.heap.size) (hi' := (setMany w5 (w.heap.size + 1) 0 [.slice g1 xa.length t1, .slice g2 xb.length t2, .slice (some ⟨g, 0, none⟩) x.length t3]).heap.size) (by omega) (by omega)).reads; rw [gl]; exact t1), by simp, by simp, by omega⟩
    have hv3 : (u == 3) = false := by simpa using hu3
    by_cases hu4 : u = 4
    · subst hu4
      obtain ⟨cE0, cE1, cE2⟩ := cells3 bE_4
      have fE := frozen_of_heap bE_4
      have lE := heap_lt bE_4
      go_wp2_with fail
      refine wp_region_tail (k := 10) (S := fun w' => w'.cell? ⟨be, 2, none⟩ = some (.slice (some ⟨g, 0, none⟩) x.length t3)) (by kernel_rfl) ?_ (fun hHeld => ?_)
      · exact cE2
      clear cE0 cE1 cE2 fE lE
      have hn5 : New w4 w4.drew := (Kp.refl _ _).drew
      generalize w4.drew = w5 at *
      have z5 := hn5.size
      have bR_5 := hn5.bk bR_4
      have bE_5 := hn5.bk bE_4
      have oA_5 := Lib.hid (oA_4.out.new (by omega) hn5)
      have oB_5 := Lib.hid (oB_4.out.new (by omega) hn5)
      have oX_5 := Lib.hid (oX_4.out.new (by omega) hn5)
      have K5 := K4.nw hn5
      have r5 := r4.nw hn5
      clear bR_4 bE_4 oA_4 oB_4 oX_4 K4 r4 hn5
      have cE2 := cell_of_heap bE_5 2
      have lE := heap_lt bE_5
      refine AnyK.tw 0 rfl ?_
      try simp only [AP]
      refine AnyK.tk 1 rfl ?_
      try simp only [AP]
      refine AnyK.tw 2 rfl ?_
      try simp only [AP]
      refine AnyK.tw 3 rfl ?_
      try simp only [AP]
      refine AnyK.tw 5 rfl ?_
      try simp only [AP]
      refine AnyK.two (i := 4) (j := 6) (by kernel_rfl) rfl rfl (fun K hK => ?_) (fun K hK => ?_)
      · go_simp
        refine (pick w5 br (p + 1) _ r5 (by omega)).mono ?_
        rintro e w6 ⟨v, rfl, v0, v1, v2, hn6, r6⟩
        have z6 := hn6.size
        have bR_6 := hn6.bo bR_5
        have bE_6 := hn6.bo bE_5
        have oA_6 := Lib.hid (oA_5.out.kp hn6 (fun b e => by omega))
        have oB_6 := Lib.hid (oB_5.out.kp hn6 (fun b e => by omega))
        have oX_6 := Lib.hid (oX_5.out.kp hn6 (fun b e => by omega))
        have K6 := K5.trans hn6
        clear cE2 lE
        clear bR_5 bE_5 oA_5 oB_5 oX_5 K5 r5 hn6
        have v9 : v < x.length := v1 (by omega)
        clear v1 v2
        obtain ⟨j, rfl⟩ : ∃ j : Nat, v = j := ⟨v.toNat, by omega⟩
        have cE2 := cell_of_heap bE_6 2
        have lE := heap_lt bE_6
        refine hK.out _ _ ?_ (fun hHeld2 => ?_)
        · exact cE2
        clear hK K hHeld
        have hHeld := hHeld2
        clear hHeld2
        try simp only [AP]
        refine AnyK.step (i := 6) (by kernel_rfl) rfl (fun K hK => ?_)
        go_simp
        obtain ⟨hn7, y7, bN_7⟩ := newb w6 (.cells #[.int .i64 1, .int .i64 (-1)] 3)
        generalize w6.alloc (.cells #[.int .i64 1, .int .i64 (-1)] 3) = w7 at *
        have z7 := hn7.size
        have bR_7 := hn7.bk bR_6
        have bE_7 := hn7.bk bE_6
        have oA_7 := Lib.hid (oA_6.out.new (by omega) hn7)
        have oB_7 := Lib.hid (oB_6.out.new (by omega) hn7)
        have oX_7 := Lib.hid (oX_6.out.new (by omega) hn7)
        have K7 := K6.nw hn7
        have r7 := r6.nw hn7
        clear cE2 lE
        clear bR_6 bE_6 oA_6 oB_6 oX_6 K6 r6 hn7
        have cE2 := cell_of_heap bE_7 2
        have lE := heap_lt bE_7
        refine hK.out _ _ ?_ (fun hHeld2 => ?_)
        · exact cE2
        clear hK K hHeld
        have hHeld := hHeld2
        clear hHeld2
        try simp only [AP]
        refine AnyK.step (i := 7) (by kernel_rfl) rfl (fun K hK => ?_)
        go_simp
        have hNc := Lib.hid (fun i : Nat => cell_of_heap bN_7 i)
        have hNl := heap_lt bN_7
        have hNr := r7.lt
        refine (num w7 br (p + 1 + 1) (w6.heap.size) 2 _ (fun x => -1 ≤ x ∧ x ≤ 1) r7 (by omega) (by omega) (by omega) (by omega) ?_).mono ?_
        · intro i hi
          have hi2 := hNc.out i
          match i, hi with
          | 0, _ => exact ⟨_, by decide, hi2⟩
          | 1, _ => exact ⟨_, by decide, hi2⟩
        rintro e w8 ⟨y, rfl, ⟨y0, y1⟩, hn8, r8⟩
        clear hNc hNl hNr bN_7
        have z8 := hn8.size
        have bR_8 := hn8.bo bR_7
        have bE_8 := hn8.bo bE_7
        have oA_8 := Lib.hid (oA_7.out.kp hn8 (fun b e => by omega))
        have oB_8 := Lib.hid (oB_7.out.kp hn8 (fun b e => by omega))
        have oX_8 := Lib.hid (oX_7.out.kp hn8 (fun b e => by omega))
        have K8 := K7.trans hn8
        clear cE2 lE
        clear bR_7 bE_7 oA_7 oB_7 oX_7 K7 r7 hn8
        have cE2 := cell_of_heap bE_8 2
        have lE := heap_lt bE_8
        refine hK.out _ _ ?_ (fun hHeld2 => ?_)
        · exact cE2
        clear hK K hHeld
        have hHeld := hHeld2
        clear hHeld2
        try simp only [AP]
        refine AnyK.tw 8 rfl ?_
        try simp only [AP]
        refine AnyK.tw 9 rfl ?_
        try simp only [AP]
        refine AnyK.last (by kernel_rfl) ?_
        simp only [List.drop_succ_cons, List.drop_zero]
        clear hHeld
        clear cE2 lE
        obtain ⟨-, _, ge, gc, gf⟩ := own_cellsN oX_8.out.own hxp
        cases ge
        have hj : j < x.length := by omega
        obtain ⟨e0, gc1⟩ : ∃ e, w8.cell? ⟨g, j * 5 + 4, none⟩ = some e := ⟨_, gc j hj 4 (by decide)⟩
        have gf1 := gf (j * 5 + 4)
        have gs : OwnF 5 encN (w8.setCell ⟨g, j * 5 + 4, none⟩ (.int .i64 (y))) l3 42 (.slice (some ⟨g, 0, none⟩) x.length t3) (x.set j (⟨(x[j]).op, (x[j]).a, (x[j]).b, (x[j]).c, y⟩)) := own_setT oX_8.out.own j hj 4 (by decide) (⟨(x[j]).op, (x[j]).a, (x[j]).b, (x[j]).c, y⟩) _ (fun q hq => by match q, hq with | 0, _ => rfl | 1, _ => rfl | 2, _ => rfl | 3, _ => rfl | 4, _ => rfl)
        have gsh := Lib.hid (OwnR.mk gs oX_8.out.top)
        have gl : (x.set j (⟨(x[j]).op, (x[j]).a, (x[j]).b, (x[j]).c, y⟩)).length = x.length := by rw [List.length_set]
        generalize x.set j (⟨(x[j]).op, (x[j]).a, (x[j]).b, (x[j]).c, y⟩) = x2 at *
        clear gs gc gf
        obtain ⟨cE0, cE1, cE2⟩ := cells3 bE_8
        have lE := heap_lt bE_8
        go_upto_region 18 with fail
        have hk9 : Kp (fun b => b = g) w8 (w8.setCell ⟨g, j * 5 + 4, none⟩ (.int .i64 (y))) := (Kp.refl (fun b => b = g) _).setCell (.inl rfl) _
        have oX_9 := gsh
        generalize (w8.setCell ⟨g, j * 5 + 4, none⟩ (.int .i64 (y))) = w9 at *
        clear gc1 gf1 gsh
        have z9 := hk9.size
        have bR_9 := hk9.bo bR_8
        have bE_9 := hk9.bo bE_8
        have oA_9 := Lib.hid (oA_8.out.kp hk9 (fun b e => by omega))
        have oB_9 := Lib.hid (oB_8.out.kp hk9 (fun b e => by omega))
        have K9 : One br w w9 := one_on K8 hk9 (by omega)
        have r9 := r8.kp hk9
        clear cE0 cE1 cE2 lE
        clear bR_8 bE_8 oA_8 oB_8 K8 r8 hk9
        clear oX_8
        obtain ⟨cE0, cE1, cE2⟩ := cells3 bE_9
        have lE := heap_lt bE_9
        obtain ⟨cR0, cR1, cR2⟩ := cells3 bR_9
        have fR := frozen_of_heap bR_9
        have lR := heap_lt bR_9
        go_wp2
        have hkz := setMany_kp (w.heap.size + 1) [.slice g1 xa.length t1, .slice g2 xb.length t2, .slice (some ⟨g, 0, none⟩) x.length t3] w9 0
        have zs := setMany_size (w.heap.size + 1) [.slice g1 xa.length t1, .slice g2 xb.length t2, .slice (some ⟨g, 0, none⟩) x.length t3] w9 0
        have hR := setMany_row [.slice g1 xa.length t1, .slice g2 xb.length t2, .slice (some ⟨g, 0, none⟩) x.length t3] bR_9 rfl
        exact bodyPost_ret (results_cell_row rfl _ _ _ _ _ _ _ rfl hR Try.underlying26 rfl (by kernel_rfl)) rfl ⟨_, _, some ⟨g, 0, none⟩, _, _, t3, xa, xb, x2, _, (by rw [gl]), one_on K9 hkz (by omega), r9.keep hkz (fun b e => by omega), by omega, ((oA_9.out.kp hkz (fun b e => by omega)).mono (lo' := w.heap.size) (hi' := (setMany w9 (w.heap.size + 1) 0 [.slice g1 xa.length t1, .slice g2 xb.length t2, .slice (some ⟨g, 0, none⟩) x.length t3]).heap.size) (by omega) (by omega)).reads, ((oB_9.out.kp hkz (fun b e => by omega)).mono (lo' := w.heap.size) (hi' := (setMany w9 (w.heap.size + 1) 0 [.slice g1 xa.length t1, .slice g2 xb.length t2, .slice (some ⟨g, 0, none⟩) x.length t3]).heap.size) (by omega) (by omega)).reads, (by have t1 := ((oX_9.out.kp hkz (fun b e => by omega)).mono (lo' := w.heap.size) (hi' := (setMany w9 (w.heap.size + 1) 0 [.slice g1 xa.length t1, .slice g2 xb.length t2, .slice (some ⟨g, 0, none⟩) x.length t3]).heap.size) (by omega) (by omega)).reads; rw [gl]; exact t1), by simp, by simp, by omega⟩
      · go_simp
        obtain ⟨hn6, y6, bN_6⟩ := newb w5 (.cells #[.int .i64 1, .int .i64 (-1)] 3)
        generalize w5.alloc (.cells #[.int .i64 1, .int .i64 (-1)] 3) = w6 at *
        have z6 := hn6.size
        have bR_6 := hn6.bk bR_5
        have bE_6 := hn6.bk bE_5
        have oA_6 := Lib.hid (oA_5.out.new (by omega) hn6)
        have oB_6 := Lib.hid (oB_5.out.new (by omega) hn6)
        have oX_6 := Lib.hid (oX_5.out.new (by omega) hn6)
        have K6 := K5.nw hn6
        have r6 := r5.nw hn6
        clear cE2 lE
        clear bR_5 bE_5 oA_5 oB_5 oX_5 K5 r5 hn6
        have cE2 := cell_of_heap bE_6 2
        have lE := heap_lt bE_6
        refine hK.out _ _ ?_ (fun hHeld2 => ?_)
        · exact cE2
        clear hK K hHeld
        have hHeld := hHeld2
        clear hHeld2
        try simp only [AP]
        refine AnyK.step (i := 4) (by kernel_rfl) rfl (fun K hK => ?_)
        go_simp
        refine (pick w6 br (p + 1) _ r6 (by omega)).mono ?_
        rintro e w7 ⟨v, rfl, v0, v1, v2, hn7, r7⟩
        have z7 := hn7.size
        have bR_7 := hn7.bo bR_6
        have bE_7 := hn7.bo bE_6
        have bN_7 := hn7.bo bN_6
        have oA_7 := Lib.hid (oA_6.out.kp hn7 (fun b e => by omega))
        have oB_7 := Lib.hid (oB_6.out.kp hn7 (fun b e => by omega))
        have oX_7 := Lib.hid (oX_6.out.kp hn7 (fun b e => by omega))
        have K7 := K6.trans hn7
        clear cE2 lE
        clear bR_6 bE_6 bN_6 oA_6 oB_6 oX_6 K6 r6 hn7
        have v9 : v < x.length := v1 (by omega)
        clear v1 v2
        obtain ⟨j, rfl⟩ : ∃ j : Nat, v = j := ⟨v.toNat, by omega⟩
        have cE2 := cell_of_heap bE_7 2
        have lE := heap_lt bE_7
        refine hK.out _ _ ?_ (fun hHeld2 => ?_)
        · exact cE2
        clear hK K hHeld
        have hHeld := hHeld2
        clear hHeld2
        try simp only [AP]
        refine AnyK.step (i := 7) (by kernel_rfl) rfl (fun K hK => ?_)
        go_simp
        have hNc := Lib.hid (fun i : Nat => cell_of_heap bN_7 i)
        have hNl := heap_lt bN_7
        have hNr := r7.lt
        refine (num w7 br (p + 1 + 1) (w5.heap.size) 2 _ (fun x => -1 ≤ x ∧ x ≤ 1) r7 (by omega) (by omega) (by omega) (by omega) ?_).mono ?_
        · intro i hi
          have hi2 := hNc.out i
          match i, hi with
          | 0, _ => exact ⟨_, by decide, hi2⟩
          | 1, _ => exact ⟨_, by decide, hi2⟩
        rintro e w8 ⟨y, rfl, ⟨y0, y1⟩, hn8, r8⟩
        clear hNc hNl hNr bN_7
        have z8 := hn8.size
        have bR_8 := hn8.bo bR_7
        have bE_8 := hn8.bo bE_7
        have oA_8 := Lib.hid (oA_7.out.kp hn8 (fun b e => by omega))
        have oB_8 := Lib.hid (oB_7.out.kp hn8 (fun b e => by omega))
        have oX_8 := Lib.hid (oX_7.out.kp hn8 (fun b e => by omega))
        have K8 := K7.trans hn8
        clear cE2 lE
        clear bR_7 bE_7 oA_7 oB_7 oX_7 K7 r7 hn8
        have cE2 := cell_of_heap bE_8 2
        have lE := heap_lt bE_8
        refine hK.out _ _ ?_ (fun hHeld2 => ?_)
        · exact cE2
        clear hK K hHeld
        have hHeld := hHeld2
        clear hHeld2
        try simp only [AP]
        refine AnyK.tw 8 rfl ?_
        try simp only [AP]
        refine AnyK.tw 9 rfl ?_
        try simp only [AP]
        refine AnyK.last (by kernel_rfl) ?_
        simp only [List.drop_succ_cons, List.drop_zero]
        clear hHeld
        clear cE2 lE
        obtain ⟨-, _, ge, gc, gf⟩ := own_cellsN oX_8.out.own hxp
        cases ge
        have hj : j < x.length := by omega
        obtain ⟨e0, gc1⟩ : ∃ e, w8.cell? ⟨g, j * 5 + 4, none⟩ = some e := ⟨_, gc j hj 4 (by decide)⟩
        have gf1 := gf (j * 5 + 4)
        have gs : OwnF 5 encN (w8.setCell ⟨g, j * 5 + 4, none⟩ (.int .i64 (y))) l3 42 (.slice (some ⟨g, 0, none⟩) x.length t3) (x.set j (⟨(x[j]).op, (x[j]).a, (x[j]).b, (x[j]).c, y⟩)) := own_setT oX_8.out.own j hj 4 (by decide) (⟨(x[j]).op, (x[j]).a, (x[j]).b, (x[j]).c, y⟩) _ (fun q hq => by match q, hq with | 0, _ => rfl | 1, _ => rfl | 2, _ => rfl | 3, _ => rfl | 4, _ => rfl)
        have gsh := Lib.hid (OwnR.mk gs oX_8.out.top)
        have gl : (x.set j (⟨(x[j]).op, (x[j]).a, (x[j]).b, (x[j]).c, y⟩)).length = x.length := by rw [List.length_set]
        generalize x.set j (⟨(x[j]).op, (x[j]).a, (x[j]).b, (x[j]).c, y⟩) = x2 at *
        clear gs gc gf
        obtain ⟨cE0, cE1, cE2⟩ := cells3 bE_8
        have lE := heap_lt bE_8
        go_upto_region 18 with fail
        have hk9 : Kp (fun b => b = g) w8 (w8.setCell ⟨g, j * 5 + 4, none⟩ (.int .i64 (y))) := (Kp.refl (fun b => b = g) _).setCell (.inl rfl) _
        have oX_9 := gsh
        generalize (w8.setCell ⟨g, j * 5 + 4, none⟩ (.int .i64 (y))) = w9 at *
        clear gc1 gf1 gsh
        have z9 := hk9.size
        have bR_9 := hk9.bo bR_8
        have bE_9 := hk9.bo bE_8
        have oA_9 := Lib.hid (oA_8.out.kp hk9 (fun b e => by omega))
        have oB_9 := Lib.hid (oB_8.out.kp hk9 (fun b e => by omega))
        have K9 : One br w w9 := one_on K8 hk9 (by omega)
        have r9 := r8.kp hk9
        clear cE0 cE1 cE2 lE
        clear bR_8 bE_8 oA_8 oB_8 K8 r8 hk9
        clear oX_8
        obtain ⟨cE0, cE1, cE2⟩ := cells3 bE_9
        have lE := heap_lt bE_9
        obtain ⟨cR0, cR1, cR2⟩ := cells3 bR_9
        have fR := frozen_of_heap bR_9
        have lR := heap_lt bR_9
        go_wp2
        have hkz := setMany_kp (w.heap.size + 1) [.slice g1 xa.length t1, .slice g2 xb.length t2, .slice (some ⟨g, 0, none⟩) x.length t3] w9 0
        have zs := setMany_size (w.heap.size + 1) [.slice g1 xa.length t1, .slice g2 xb.length t2, .slice (some ⟨g, 0, none⟩) x.length t3] w9 0
        have hR := setMany_row [.slice g1 xa.length t1, .slice g2 xb.length t2, .slice (some ⟨g, 0, none⟩) x.length t3] bR_9 rfl
        exact bodyPost_ret (results_cell_row rfl _ _ _ _ _ _ _ rfl hR Try.underlying26 rfl (by kernel_rfl)) rfl ⟨_, _, some ⟨g, 0, none⟩, _, _, t3, xa, xb, x2, _, (by rw [gl]), one_on K9 hkz (by omega), r9.keep hkz (fun b e => by omega), by omega, ((oA_9.out.kp hkz (fun b e => by omega)).mono (lo' := w.heap.size) (hi' := (setMany w9 (w.heap.size + 1) 0 [.slice g1 xa.length t1, .slice g2 xb.length t2, .slice (some ⟨g, 0, none⟩) x.length t3]).heap.size) (by omega) (by omega)).reads, ((oB_9.out.kp hkz (fun b e => by omega)).mono (lo' := w.heap.size) (hi' := (setMany w9 (w.heap.size + 1) 0 [.slice g1 xa.length t1, .slice g2 xb.length t2, .slice (some ⟨g, 0, none⟩) x.length t3]).heap.size) (by omega) (by omega)).reads, (by have t1 := ((oX_9.out.kp hkz (fun b e => by omega)).mono (lo' := w.heap.size) (hi' := (setMany w9 (w.heap.size + 1) 0 [.slice g1 xa.length t1, .slice g2 xb.length t2, .slice (some ⟨g, 0, none⟩) x.length t3]).heap.size) (by omega) (by omega)).reads; rw [gl]; exact t1), by simp, by simp, by omega⟩
    have hv4 : (u == 4) = false := by simpa using hu4
    by_cases hu5 : u = 5
    · subst hu5
      obtain ⟨cE0, cE1, cE2⟩ := cells3 bE_4
      have fE := frozen_of_heap bE_4
      have lE := heap_lt bE_4
      have hnV : New w4 (w4.alloc (.cells #[] 3)) := (Kp.refl _ _).alloc _
      go_upto_region 18 with fail
      have hk5 : Kp (fun b => b = be) w4 ((w4.setCell ⟨be, 0, none⟩ (.slice (some ⟨w4.heap.size, 0, none⟩) 0 0)).alloc (.cells #[] 3)) := ((Kp.refl (fun b => b = be) _).setCell (.inl rfl) _).alloc _
      have bE_5 : ((w4.setCell ⟨be, 0, none⟩ (.slice (some ⟨w4.heap.size, 0, none⟩) 0 0)).alloc (.cells #[] 3)).heap[be]? = some (.cells #[.slice (some ⟨w4.heap.size, 0, none⟩) 0 0, .slice g2 xb.length t2, .slice (some ⟨g, 0, none⟩) x.length t3] 26) := heap_old (setCell_heap bE_4 _)
      generalize ((w4.setCell ⟨be, 0, none⟩ (.slice (some ⟨w4.heap.size, 0, none⟩) 0 0)).alloc (.cells #[] 3)) = w5 at *
      clear hnV
      have z5 := hk5.size
      have bR_5 := hk5.bo bR_4
      have oA_5 := Lib.hid (oA_4.out.kp hk5 (fun b e => by omega))
      have oB_5 := Lib.hid (oB_4.out.kp hk5 (fun b e => by omega))
      have oX_5 := Lib.hid (oX_4.out.kp hk5 (fun b e => by omega))
      have K5 : One br w w5 := one_on K4 hk5 (by omega)
      have r5 := r4.kp hk5
      clear cE0 cE1 cE2 fE lE
      clear bR_4 bE_4 oA_4 oB_4 oX_4 K4 r4 hk5
      obtain ⟨cE0, cE1, cE2⟩ := cells3 bE_5
      have lE := heap_lt bE_5
      obtain ⟨cR0, cR1, cR2⟩ := cells3 bR_5
      have fR := frozen_of_heap bR_5
      have lR := heap_lt bR_5
      go_wp2
      have hkz := setMany_kp (w.heap.size + 1) [.slice (some ⟨w4.heap.size, 0, none⟩) 0 0, .slice g2 xb.length t2, .slice (some ⟨g, 0, none⟩) x.length t3] w5 0
      have zs := setMany_size (w.heap.size + 1) [.slice (some ⟨w4.heap.size, 0, none⟩) 0 0, .slice g2 xb.length t2, .slice (some ⟨g, 0, none⟩) x.length t3] w5 0
      have hR := setMany_row [.slice (some ⟨w4.heap.size, 0, none⟩) 0 0, .slice g2 xb.length t2, .slice (some ⟨g, 0, none⟩) x.length t3] bR_5 rfl
      exact bodyPost_ret (results_cell_row rfl _ _ _ _ _ _ _ rfl hR Try.underlying26 rfl (by kernel_rfl)) rfl ⟨_, _, _, _, _, _, [], xb, x, _, rfl, one_on K5 hkz (by omega), r5.keep hkz (fun b e => by omega), by omega, .nil _ _, ((oB_5.out.kp hkz (fun b e => by omega)).mono (lo' := w.heap.size) (hi' := (setMany w5 (w.heap.size + 1) 0 [.slice (some ⟨w4.heap.size, 0, none⟩) 0 0, .slice g2 xb.length t2, .slice (some ⟨g, 0, none⟩) x.length t3]).heap.size) (by omega) (by omega)).reads, ((oX_5.out.kp hkz (fun b e => by omega)).mono (lo' := w.heap.size) (hi' := (setMany w5 (w.heap.size + 1) 0 [.slice (some ⟨w4.heap.size, 0, none⟩) 0 0, .slice g2 xb.length t2, .slice (some ⟨g, 0, none⟩) x.length t3]).heap.size) (by omega) (by omega)).reads, by simp, by simp, by simp⟩
    have hv5 : (u == 5) = false := by simpa using hu5
    obtain ⟨cE0, cE1, cE2⟩ := cells3 bE_4
    have lE := heap_lt bE_4
    obtain ⟨cR0, cR1, cR2⟩ := cells3 bR_4
    have fR := frozen_of_heap bR_4
    have lR := heap_lt bR_4
    go_wp2
    have hkz := setMany_kp (w.heap.size + 1) [.slice g1 xa.length t1, .slice g2 xb.length t2, .slice (some ⟨g, 0, none⟩) x.length t3] w4 0
    have zs := setMany_size (w.heap.size + 1) [.slice g1 xa.length t1, .slice g2 xb.length t2, .slice (some ⟨g, 0, none⟩) x.length t3] w4 0
    have hR := setMany_row [.slice g1 xa.length t1, .slice g2 xb.length t2, .slice (some ⟨g, 0, none⟩) x.length t3] bR_4 rfl
    exact bodyPost_ret (results_cell_row rfl _ _ _ _ _ _ _ rfl hR Try.underlying26 rfl (by kernel_rfl)) rfl ⟨_, _, _, _, _, _, xa, xb, x, _, rfl, one_on K4 hkz (by omega), r4.keep hkz (fun b e => by omega), by omega, ((oA_4.out.kp hkz (fun b e => by omega)).mono (lo' := w.heap.size) (hi' := (setMany w4 (w.heap.size + 1) 0 [.slice g1 xa.length t1, .slice g2 xb.length t2, .slice (some ⟨g, 0, none⟩) x.length t3]).heap.size) (by omega) (by omega)).reads, ((oB_4.out.kp hkz (fun b e => by omega)).mono (lo' := w.heap.size) (hi' := (setMany w4 (w.heap.size + 1) 0 [.slice g1 xa.length t1, .slice g2 xb.length t2, .slice (some ⟨g, 0, none⟩) x.length t3]).heap.size) (by omega) (by omega)).reads, ((oX_4.out.kp hkz (fun b e => by omega)).mono (lo' := w.heap.size) (hi' := (setMany w4 (w.heap.size + 1) 0 [.slice g1 xa.length t1, .slice g2 xb.length t2, .slice (some ⟨g, 0, none⟩) x.length t3]).heap.size) (by omega) (by omega)).reads, by simp, by simp, by simp⟩
end Go.Proofs.Ytbicpkmlionldaa.DrawU
