/- Draws of lists of labels and of texts: of, l1Bend, DrawFormatLabels, DrawParseLabels. No conditions. -/
import Derived.Test.YtdagoioeifnmeaaDrawL
import Derived.Test.YtdagoioeifnmeaaLawF
import Derived.Test.YtdagoioeifnmeaaApp
import Derived.Deep.RegionHeld3
import Derived.Test.YtdagoioeifnmeaaFmtL
namespace Go.Proofs.Ytdagoioeifnmeaa.DrawT
open Go.RowKit Kit Draw DrawL
set_option linter.unusedVariables false

theorem own_of {α : Type} {n : Nat} {enc : α → Nat → Value} {w : World} {base b cap : Nat} {T : TypeId} {xs : List α} {cs : Array Value} (hb : base ≤ b) (hh : w.heap[b]? = some (.cells cs T (0, 0))) (hl : xs.length ≤ cap) (hm : cap ≤ maxLen) (hs : cs.size = cap * n)
    (hc : ∀ i (hi : i < xs.length) t, t < n → cs[i * n + t]? = some (enc xs[i] t)) : OwnF n enc w base T (.slice (some ⟨b, 0, none⟩) xs.length cap) xs := by
  refine ⟨cs.toList.take (xs.length * n), ⟨?_, .inr ⟨b, cap, cs, rfl, hb, hh, hl, hm, hs, rfl⟩⟩, fun i hi t ht => ?_⟩
  · have h1 : cs.toList.length = cap * n := by simpa using hs
    rw [List.length_take, h1]
    have : xs.length * n ≤ cap * n := Nat.mul_le_mul_right _ hl
    omega
  · have hlt : i * n + t < xs.length * n := by
      have : (i + 1) * n ≤ xs.length * n := Nat.mul_le_mul_right _ hi
      rw [Nat.add_mul] at this; omega
    rw [List.getElem?_take, if_pos hlt, Array.getElem?_toList, hc i hi t ht]

/-- a row of its own that isn't empty, and it with its first element turned -/
theorem own_first {w : World} {base : Nat} {T : TypeId} {v : Value} {xs : List Int} (h : OwnF 1 encI w base T v xs) (h0 : xs ≠ []) : ∃ b cap, v = .slice (some ⟨b, 0, none⟩) xs.length cap ∧ base ≤ b ∧ (∃ u, w.cell? ⟨b, 0, none⟩ = some u) ∧ w.frozen? ⟨b, 0, none⟩ = false ∧
    (∀ x, ∃ ys : List Int, ys.length = xs.length ∧ OwnF 1 encI (w.setCell ⟨b, 0, none⟩ (.int .i64 x)) base T (.slice (some ⟨b, 0, none⟩) xs.length cap) ys) := by
  rcases h.form with ⟨e, _⟩ | ⟨b, cap, cs, rfl, hb, hl, hm, hh, hs, hc⟩
  · exact absurd e h0
  · have hp : 0 < xs.length := List.length_pos_iff.2 h0
    refine ⟨b, cap, rfl, hb, ⟨_, (cell_of_heap hh 0).trans (by have := hc 0 hp 0 (by omega); simpa using this)⟩, frozen_of_heap hh 0, fun x => ⟨xs.set 0 x, by simp, ?_⟩⟩
    have hq := own_of (n := 1) (enc := encI) (xs := xs.set 0 x) (cap := cap) hb (setCell_heap hh (.int .i64 x)) (by simpa using hl) hm (by simpa using hs) (fun i hi t ht => by
      obtain rfl : t = 0 := by omega
      have hi' : i < xs.length := by simpa using hi
      rw [Nat.mul_one, Nat.add_zero, Array.getElem?_setIfInBounds]
      by_cases e : i = 0
      · subst e
        have hz : 0 < cs.size := by omega
        rw [if_pos rfl, if_pos hz, List.getElem_set_self]
      · have h1 : ¬ 0 = i := fun h => e h.symm
        have h2 := hc i hi' 0 (by omega)
        rw [Nat.mul_one, Nat.add_zero] at h2
        rw [if_neg h1, h2, List.getElem_set_ne h1])
    rw [List.length_set] at hq
    exact hq

set_option maxHeartbeats 400000 in
theorem of (w : World) (br p : Nat) (b n cap : Nat) (h : Rd w br p) (hp : p < 1099511627776) (hn : 1 ≤ n) (hb : ¬ br = b) (hm : n ≤ 1000)
    (hc : ∀ i, i < n → ∃ x : ByteArray, x.size ≤ 1 ∧ w.cell? ⟨b, i, none⟩ = some (.string x)) :
    Calls Try.prog 70 #[.pointer (some ⟨br, 0, none⟩), .slice (some ⟨b, 0, none⟩) n cap] w fun e w' => ∃ x : ByteArray, e = .returned (.string x) ∧ x.size ≤ 1 ∧ One br w w' ∧ Rd w' br (p + 1) := by
  have H := Lib.hid hc; clear hc
  go_enter Try.func70, Try.ntmps70
  go_wp2_with fail
  refine (pick w br p _ h hp).mono ?_
  rintro e w1 ⟨v, rfl, v0, v1, _, h1, h2⟩
  have v2 : v < n := v1 (by omega)
  obtain ⟨k, rfl⟩ := Int.eq_ofNat_of_zero_le v0
  obtain ⟨x, hx, hcx⟩ := H.out k (by omega)
  have hcell : w1.cell? ⟨b, k, none⟩ = some (.string x) := by rw [h1.cell (cell_lt hcx) (by omega)]; exact hcx
  clear v1 hcx
  go_wp2
  go_ret
  exact ⟨x, rfl, hx, h1, h2⟩
set_option maxHeartbeats 400000 in
theorem l1Bend (w : World) (br p : Nat) (s : ByteArray) (b n cap : Nat) (h : Rd w br p) (hp : p + 10 < 1099511627776) (hs : s.size ≤ 1000000) (hn : 1 ≤ n) (hb : ¬ br = b) (hm : n ≤ 1000)
    (hc : ∀ i, i < n → ∃ x : ByteArray, x.size ≤ 1 ∧ w.cell? ⟨b, i, none⟩ = some (.string x)) :
    Calls Try.prog 65 #[.pointer (some ⟨br, 0, none⟩), .string s, .slice (some ⟨b, 0, none⟩) n cap] w fun e w' => ∃ x : ByteArray, e = .returned (.string x) ∧ x.size ≤ s.size + 1 ∧ One br w w' := by
  have H := Lib.hid hc; clear hc
  by_cases h0 : s.size = 0
  · have h0b : ((s.size : Int) == 0) = true := by simp [h0]
    go_enter Try.func65, Try.ntmps65
    go_wp2
    go_ret
    exact ⟨s, rfl, by omega, Kp.refl _ _⟩
  · have h0b : ((s.size : Int) == 0) = false := by simp [h0]
    go_enter Try.func65, Try.ntmps65
    go_wp2_with fail
    refine (pick w br p _ h (by omega)).mono ?_
    rintro e w1 ⟨v, rfl, v0, v1, _, h1, h2⟩
    clear v1
    by_cases hv : v = 0
    · subst hv
      go_wp2
      go_ret
      exact ⟨s, rfl, by omega, h1⟩
    · have hv2 : (v == 0) = false := by simpa using hv
      go_wp2_with fail
      refine (pick w1 br _ _ h2 (by omega)).mono ?_
      rintro e w2 ⟨k, rfl, k0, k1, _, h3, h4⟩
      have k2 : k < s.size := k1 (by omega)
      obtain ⟨k, rfl⟩ := Int.eq_ofNat_of_zero_le k0
      clear k1
      have k3 : (k : Int) ≤ (s.size : Int) := by omega
      have hd : Rd w2.drew br (p + 1 + 1) := h4.keep (S := fun _ => False) (Kp.refl _ _).drew (fun _ f => f.elim)
      have Hd := Lib.hid (show ∀ i, i < n → ∃ x : ByteArray, x.size ≤ 1 ∧ w2.drew.cell? ⟨b, i, none⟩ = some (.string x) from fun i hi => by
        obtain ⟨x, hx, hcx⟩ := H.out i hi
        have hlt := cell_lt hcx
        have e1 : w1.cell? ⟨b, i, none⟩ = w.cell? ⟨b, i, none⟩ := h1.cell hlt (fun e => hb e.symm) i
        have e2 : w2.cell? ⟨b, i, none⟩ = w1.cell? ⟨b, i, none⟩ := h3.cell (Nat.lt_of_lt_of_le hlt h1.size) (fun e => hb e.symm) i
        exact ⟨x, hx, (e2.trans e1).trans hcx⟩)
      clear H h h2 h4
      go_wp2_with fail
      go_region_held3 (fun _ => True) (trivial)
        (first
          | (go_at_call 70; refine (of w2.drew br _ b n cap hd (by omega) hn hb hm Hd.out).mono ?_; rintro e w3 ⟨x, rfl, hx, h5, h6⟩; have a1 : ∀ wx, (Op.stringOp .add (s.extract 0 k) x).run Try.prog wx = .ok (.string (s.extract 0 k ++ x)) wx := fun wx => run_string_add_sum wx _ _ (by rw [ByteArray.size_extract]; omega); have b1 : ∀ wx, (binOp .add 9 (.string (s.extract 0 k)) (.string x)).run Try.prog wx = .ok (.string (s.extract 0 k ++ x)) wx := a1)
          | (go_at_call 64; refine (pick _ br _ _ h6 (by omega)).mono ?_; rintro e w4 ⟨u, rfl, u0, u1, _, h7, h8⟩; have u2 : u < 2 := u1 (by omega); clear u1; have e1 : IntKind.i64.wrap ((k : Int) + u) = (k : Int) + u := IntWalk.i64_in _ (by omega); have e2 : (0 : Int) ≤ (k : Int) + u := (by omega); have e3 : (k : Int) + u ≤ (s.size : Int) := (by omega); have a2 : ∀ wx, (Op.stringOp .add (s.extract 0 k ++ x) (s.extract ((k : Int) + u).toNat s.size)).run Try.prog wx = .ok (.string (s.extract 0 k ++ x ++ s.extract ((k : Int) + u).toNat s.size)) wx := fun wx => run_string_add_sum wx _ _ (by rw [ByteArray.size_append, ByteArray.size_extract, ByteArray.size_extract]; omega); have b2 : ∀ wx, (binOp .add 9 (.string (s.extract 0 k ++ x)) (.string (s.extract ((k : Int) + u).toNat s.size))).run Try.prog wx = .ok (.string (s.extract 0 k ++ x ++ s.extract ((k : Int) + u).toNat s.size)) wx := a2))
      go_wp2
      go_ret
      refine ⟨_, rfl, ?_, (h1.trans h3).trans (((Kp.refl _ _).drew.trans h5).trans h7)⟩
      rw [ByteArray.size_append, ByteArray.size_append, ByteArray.size_extract, ByteArray.size_extract]; omega
/-- a list of labels drawn -/
def Ints (w : World) (e : Ending) (w' : World) : Prop := ∃ v xs, e = .returned v ∧ New w w' ∧ OwnF 1 encI w' w.heap.size 3 v xs ∧ xs.length ≤ 6
set_option maxHeartbeats 1000000 in
theorem drawFmt (w : World) (a : Option Addr) (len cap : Nat) (h : Src w a len cap) : Calls Try.prog 48 #[.slice a len cap] w (Ints w) := by
  go_enter Try.func48, Try.ntmps48
  go_wp2_with fail
  refine (l17Open w a len cap h.1 h.2.1 h.2.2).mono ?_
  rintro e w1 ⟨rfl, h1, h2⟩
  have hbr := h2.lt
  go_wp2_with fail
  refine (num _ w.heap.size 0 _ 6 _ (fun v => 0 ≤ v ∧ v ≤ 6) ((h2.keep (S := fun _ => False) ((Kp.refl _ _).alloc _) (fun _ f => f.elim)).keep (S := fun _ => False) ((Kp.refl _ _).alloc _) (fun _ f => f.elim)) (by omega) (by omega) (by omega) (by omega) ?_).mono ?_
  · intro i hi
    match i, hi with
    | 0, _ => exact ⟨3, ⟨by omega, by omega⟩, (cell_of_heap (heap_at (by simp)) _).trans rfl⟩
    | 1, _ => exact ⟨4, ⟨by omega, by omega⟩, (cell_of_heap (heap_at (by simp)) _).trans rfl⟩
    | 2, _ => exact ⟨2, ⟨by omega, by omega⟩, (cell_of_heap (heap_at (by simp)) _).trans rfl⟩
    | 3, _ => exact ⟨1, ⟨by omega, by omega⟩, (cell_of_heap (heap_at (by simp)) _).trans rfl⟩
    | 4, _ => exact ⟨0, ⟨by omega, by omega⟩, (cell_of_heap (heap_at (by simp)) _).trans rfl⟩
    | 5, _ => exact ⟨6, ⟨by omega, by omega⟩, (cell_of_heap (heap_at (by simp)) _).trans rfl⟩
  rintro e w2 ⟨n, rfl, ⟨n0, n1⟩, h3, h4⟩
  have hN2 : New w w2 := New.one ((h1.alloc _).alloc _) h3 (Nat.le_refl _)
  have hO2 : OwnF 1 encI w2 (w.heap.size + 1) 3 (.slice (some ⟨w1.heap.size, 0, none⟩) 0 0) [] := by
    have o1 : OwnF 1 encI (w1.alloc (.cells #[] 3)) (w.heap.size + 1) 3 (.slice (some ⟨w1.heap.size, 0, none⟩) 0 0) [] := OwnF.empty w1 3 (by omega)
    exact (o1.new ((Kp.refl _ _).alloc _)).kp h3 (fun b hb e => by have := o1.lt b hb; omega)
  obtain ⟨n, rfl⟩ := Int.eq_ofNat_of_zero_le n0
  clear h3
  go_wp2_with fail
  go_loopw [4, 5] (fun v i wr => ∃ (j p : Nat) (xs : List Int), j ≤ 6 ∧ i = .int .i64 j ∧ xs.length + j ≤ 6 ∧ p ≤ 7 ∧ p + j ≤ 7 ∧ New w wr ∧ Rd wr w.heap.size p ∧ OwnF 1 encI wr (w.heap.size + 1) 3 v xs) (fun _ i _ => (intOf i).toNat)
  case atStart => exact ⟨n, 1, [], by omega, rfl, by simp; omega, by omega, by omega, hN2, h4, hO2⟩
  case round =>
    obtain ⟨j, p, xs, hj, rfl, hxs, hp, hpj, hN, hR, hO⟩ := hrel
    have hb3 := hR.lt
    clear hN2 h4 hO2
    by_cases hlt : 0 < j
    · go_wp2_with fail
      refine (pick wr w.heap.size p _ hR (by omega)).mono ?_
      rintro e wp ⟨u, rfl, u0, u1, _, k1, R1⟩
      have hNp := hN.one k1 (Nat.le_refl _)
      have hOp := hO.kp k1 (fun b hb e => by have := hO.lt b hb; omega)
      have hb4 := R1.lt
      clear u1 k1 hR hO hN
      have hA1 : (xs.length + 1) * 8 ≤ 140737488355328 := by omega
      have hA2 : xs.length + 1 ≤ 9223372036854775807 := by omega
      go_wp2_with (at_builtin; refine wpList_push rfl _ _ 37 rfl (w.heap.size + 1) 3 _ 1 8 Try.underlying37 LawF.infoI rfl (by decide) _ _ rfl (hOp.new ((Kp.refl _ _).alloc _)) _ _ u rfl (newsI _ u _) (oneI _) hA1 hA2 (size_alloc_le (by omega) _) ?_; intro v' w1 hO1 hK1)
      have hN1 : New w w1 := New.on (hNp.alloc _) hK1 (fun i hi => by have := (hOp.lt i hi).1; omega)
      have hR1 := (R1.keep (S := fun _ => False) ((Kp.refl _ _).alloc _) (fun _ f => f.elim)).keep hK1 (fun i hi => by have := (hOp.lt i hi).1; omega)
      clear hOp hK1 R1 hNp
      go_wp2
      go_roundw
      case rel => exact ⟨j - 1, p + 1, _, by omega, by go_num, by simp; omega, by omega, by omega, hN1, hR1, hO1⟩
      case measure => simp [intOf]; omega
    · obtain rfl : j = 0 := by omega
      obtain ⟨a', c', rfl, hl1⟩ := hO.reads.len
      by_cases hz : xs = []
      · subst hz
        go_wp2
        go_ret
        exact ⟨_, _, rfl, hN, hO.mono (by omega), by simp⟩
      · have hzl : 0 < xs.length := List.length_pos_iff.2 hz
        go_wp2_with fail
        refine (pick wr w.heap.size p _ hR (by omega)).mono ?_
        rintro e w3 ⟨u, rfl, u0, u1, _, k3, R3⟩
        have hN3 := hN.one k3 (Nat.le_refl _)
        have hO3 := hO.kp k3 (fun b hb e => by have := hO.lt b hb; omega)
        clear u1 k3 hR hO hN
        by_cases hu : u = 0
        · subst hu
          go_wp2_with fail
          refine (l1Draw w3 w.heap.size (p + 1) R3 (by omega)).mono ?_
          rintro e w4 ⟨x, q, rfl, k4, R4, hq⟩
          have hN4 := hN3.one k4 (Nat.le_refl _)
          have hO4 := hO3.kp k4 (fun b hb e => by have := hO3.lt b hb; omega)
          obtain ⟨b, cap2, hv, hb1, ⟨u5, hc5⟩, hf5, hset⟩ := own_first hO4 hz
          cases hv
          obtain ⟨ys, hyl, hOy⟩ := hset x
          have hOy := Lib.hid hOy
          clear hset hO3 hN3 k4 R4 R3 hO4
          go_wp2
          go_ret
          exact ⟨_, ys, rfl, New.one hN4 (Draw.one_setCell _ b 0 _) (by omega), hOy.out.mono (by omega), by omega⟩
        · have hu2 : (u == 0) = false := by simpa using hu
          go_wp2
          go_ret
          exact ⟨_, _, rfl, hN3, hO3.mono (by omega), by omega⟩
set_option maxHeartbeats 1000000 in
theorem drawParse (w : World) (a : Option Addr) (len cap : Nat) (h : Src w a len cap) : Calls Try.prog 50 #[.slice a len cap] w fun e w' => ∃ x : ByteArray, e = .returned (.string x) ∧ x.size ≤ 7 ∧ New w w' := by
  go_enter Try.func50, Try.ntmps50
  go_wp2_with fail
  refine (l17Open w a len cap h.1 h.2.1 h.2.2).mono ?_
  rintro e w1 ⟨rfl, h1, h2⟩
  have hbr := h2.lt
  go_wp2_with fail
  refine (drawFmt w1 a len cap (h.keep h1)).mono ?_
  rintro e w2 ⟨v, xs, rfl, h3, o1, hl⟩
  have hN2 := h1.trans h3
  go_wp2_with fail
  refine (FmtL.specFmt w2 _ _ v xs o1.reads (Nat.le_refl _) (by omega)).mono ?_
  rintro e w3 ⟨rfl, h4⟩
  have hN3 := hN2.trans h4
  have R3 : Rd w3 w.heap.size 0 := (h2.keep h3 (fun _ f => f.elim)).keep h4 (fun _ f => f.elim)
  have hsz : (⟨(FmtL.text xs).toArray⟩ : ByteArray).size ≤ 6 := by
    show (FmtL.text xs).toArray.size ≤ 6
    unfold FmtL.text; split
    · simp [FmtL.letters]; exact hl
    · simp
  have hlt3 := R3.lt
  clear o1 h3 h4 h1 h2 hN2
  generalize (⟨(FmtL.text xs).toArray⟩ : ByteArray) = t at *
  go_wp2_with fail
  refine (l1Bend _ w.heap.size 0 t _ 6 _ (R3.keep (S := fun _ => False) ((Kp.refl _ _).alloc _) (fun _ f => f.elim)) (by omega) (by omega) (by omega) (by omega) (by omega) ?_).mono ?_
  · intro i hi
    match i, hi with
    | 0, _ => exact ⟨⟨#[]⟩, by decide, (cell_of_heap (heap_at (by simp)) _).trans rfl⟩
    | 1, _ => exact ⟨⟨#[76]⟩, by decide, (cell_of_heap (heap_at (by simp)) _).trans rfl⟩
    | 2, _ => exact ⟨⟨#[104]⟩, by decide, (cell_of_heap (heap_at (by simp)) _).trans rfl⟩
    | 3, _ => exact ⟨⟨#[88]⟩, by decide, (cell_of_heap (heap_at (by simp)) _).trans rfl⟩
    | 4, _ => exact ⟨⟨#[32]⟩, by decide, (cell_of_heap (heap_at (by simp)) _).trans rfl⟩
    | 5, _ => exact ⟨⟨#[65]⟩, by decide, (cell_of_heap (heap_at (by simp)) _).trans rfl⟩
  rintro e w4 ⟨x, rfl, hx, k4⟩
  go_wp2
  go_ret
  exact ⟨x, rfl, by omega, New.one (hN3.alloc _) k4 (Nat.le_refl _)⟩
end Go.Proofs.Ytdagoioeifnmeaa.DrawT
