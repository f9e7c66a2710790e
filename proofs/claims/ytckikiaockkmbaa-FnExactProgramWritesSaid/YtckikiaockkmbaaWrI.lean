/- ProgramWrites of impl and of spec. Condition (spec): at most 2^20 nodes. -/
import Derived.Test.YtckikiaockkmbaaWrC
import Derived.Test.YtckikiaockkmbaaPgmV
import Derived.Test.YtckikiaockkmbaaInv
import Derived.Test.YtckikiaockkmbaaAppS
import Derived.Test.YtckikiaockkmbaaOwnM
import Derived.BigQuiet
import Derived.OwnWalk
import Derived.Test.YtckikiaockkmbaaShort
namespace Go.Proofs.Ytckikiaockkmbaa.WrI
open Go.RowKit Kit Val Each WrC
set_option linter.unusedVariables false
/-- the writes, in rows of the call's own -/
def GotW (w : World) (xa xb : List Int) (l : List St) (e : Ending) (w' : World) : Prop := ∃ (va vb : Value), e = .returned (.tuple #[va, vb]) ∧ New w w' ∧ OwnF 1 encB w' w.heap.size 4 va (wrB xa xb l).1 ∧ OwnF 1 encB w' w.heap.size 4 vb (wrB xa xb l).2 ∧ ∀ b c, va.ownBlock = some b → vb.ownBlock = some c → b ≠ c
theorem RowB.own {w : World} {g : Nat} {xs : List Bool} (h : RowB w g xs) {base : Nat} (hb : base ≤ g) (hm : xs.length ≤ 1048576) : OwnF 1 encB w base 4 (.slice (some ⟨g, 0, none⟩) xs.length xs.length) xs := by
  refine OwnF.mk' h hb (Nat.le_refl _) (by unfold maxLen; omega) (by simp) fun i hi t ht => ?_
  obtain rfl : t = 0 := by omega
  simp [hi]
theorem wrB_len {xa xb : List Int} {l : List St} (h : progB xa xb l = true) : (wrB xa xb l).1.length = xa.length ∧ (wrB xa xb l).2.length = xb.length := by
  have := foldL_wr l (List.replicate xa.length false, List.replicate xb.length false)
  rw [wrB, h]
  simpa using this
theorem valid_len {xa xb : List Int} {l : List St} (h : progB xa xb l = true) : xa.length ≤ 12 ∧ xb.length ≤ 2 := by
  simp only [progB, declB, Bool.and_eq_true, decide_eq_true_eq] at h; exact ⟨h.1.1.1.1.1.2, h.1.1.1.1.2⟩
theorem info : (Try.prog.info? 4).map (fun i => (i.zero, i.size, i.bytes)) = some (some (.bool false), 1, 1) := by kernel_rfl
def upd (v : Nat → Value) (i : Nat) (x : Value) : Nat → Value := fun j => if j = i then x else v j
/-- what number i has brought -/
def Br (w1 : World) (pb : Nat) (a1 a2 : Option Addr) (d1 d2 n1 n2 : Nat) (col : Nat → Nat) (v : Nat → Value) (w : World) : Nat → Prop
  | 0 => v 0 = .pointer (some ⟨pb, 0, none⟩)
  | 1 => v 1 = .slice a1 n1 d1
  | 2 => v 2 = .int .i64 n1
  | 3 => ∃ g, v 3 = (.slice (some ⟨g, 0, none⟩) n1 n1) ∧ RowB w g (List.replicate n1 false) ∧ col g = 3 ∧ w1.heap.size ≤ g
  | 4 => v 4 = .pointer (some ⟨pb, 1, none⟩)
  | 5 => v 5 = .slice a2 n2 d2
  | 6 => v 6 = .int .i64 n2
  | 7 => ∃ g, v 7 = (.slice (some ⟨g, 0, none⟩) n2 n2) ∧ RowB w g (List.replicate n2 false) ∧ col g = 7 ∧ w1.heap.size ≤ g
  | 8 => ∃ b, v 8 = .pointer (some ⟨b, 0, none⟩) ∧ w.heap[b]? = some (.cells #[.slice none 0 0] 39 (0, 0)) ∧ col b = 8 ∧ w1.heap.size ≤ b
  | 9 => ∃ b, v 9 = .pointer (some ⟨b, 0, none⟩) ∧ w.heap[b]? = some (.cells #[.slice none 0 0] 39 (0, 0)) ∧ col b = 9 ∧ w1.heap.size ≤ b
  | 10 => ∃ b, v 8 = .pointer (some ⟨b, 0, none⟩) ∧ w.heap[b]? = some (.cells #[v 3] 39 (0, 0)) ∧ col b = 8 ∧ w1.heap.size ≤ b
  | _ => True
def gate (l : Array Bool) : Nat → Bool | 8 => l.getD 10 true | _ => false
structure Mk (w1 : World) (pb : Nat) (a1 a2 : Option Addr) (d1 d2 n1 n2 : Nat) (col : Nat → Nat) (v : Nat → Value) (t : Array Bool) (w : World) : Prop where
  N : New w1 w
  f : ∀ j, j < 11 → t.getD j false = true → gate t j = false → Br w1 pb a1 a2 d1 d2 n1 n2 col v w j
  d : t.getD 10 false = true → t.getD 3 false = true ∧ t.getD 8 false = true
theorem set_yes {l : Array Bool} {i j : Nat} (h : l.getD j false = true) : (l.setIfInBounds i true).getD j false = true := by
  by_cases e : i = j
  · subst e
    have hj : i < l.size := by
      rcases Nat.lt_or_ge i l.size with q | q
      · exact q
      · rw [Array.getD, dif_neg (by omega)] at h; cases h
    simp [Array.getD, hj]
  · rw [getD_set_ne false e]; exact h
theorem both {l : Array Bool} {j : Nat} (h : l.getD j false = true) (h2 : l.getD j true = false) : False := by
  rcases Nat.lt_or_ge j l.size with q | q
  · rw [getD_same q, h] at h2; cases h2
  · rw [Array.getD, dif_neg (by omega)] at h2; cases h2
theorem no_of {l : Array Bool} {i j : Nat} (h : (l.setIfInBounds i true).getD j true = false) : i ≠ j ∧ l.getD j true = false := by
  by_cases e : i = j
  · subst e
    rcases Nat.lt_or_ge i l.size with q | q
    · simp [Array.getD, q] at h
    · rw [Array.getD, dif_neg (by simp; omega)] at h; cases h
  · exact ⟨e, by rwa [getD_set_ne true e] at h⟩
theorem Mk.step {w1 : World} {pb : Nat} {a1 a2 : Option Addr} {d1 d2 n1 n2 : Nat} {col : Nat → Nat} {v : Nat → Value} {t : Array Bool} {w : World} (F : Mk w1 pb a1 a2 d1 d2 n1 n2 col v t w) (hl : t.size = 12) {i : Nat} (hi : i < 11) (hu : t.getD i true = false)
    (u : Value) (col' : Nat → Nat) {w' : World} {S : Nat → Prop} (k : Kp S w w') (hN : ∀ b, S b → w1.heap.size ≤ b) (hcol : ∀ b, b < w.heap.size → col' b = col b) (hS : ∀ b, S b → b < w.heap.size → i = 10 ∧ col b = 8)
    (new : Br w1 pb a1 a2 d1 d2 n1 n2 col' (upd v i u) w' i) (h10 : i = 10 → t.getD 3 false = true ∧ t.getD 8 false = true) : Mk w1 pb a1 a2 d1 d2 n1 n2 col' (upd v i u) (t.setIfInBounds i true) w' := by
  refine ⟨New.on F.N k hN, fun j hj hjl hg => ?_, fun h => ?_⟩
  · by_cases e : j = i
    · subst e; exact new
    · have hjl2 : t.getD j false = true := by rwa [getD_set_ne false (fun q => e q.symm)] at hjl
      have hv : ∀ q, q ≠ i → upd v i u q = v q := fun q hq => if_neg hq
      match j, hj, hjl2, hg, e with
      | 0, hj, h1, hg, e => have h := F.f 0 hj h1 rfl; show upd v i u 0 = _; rw [hv 0 e]; exact h
      | 1, hj, h1, hg, e => have h := F.f 1 hj h1 rfl; show upd v i u 1 = _; rw [hv 1 e]; exact h
      | 2, hj, h1, hg, e => have h := F.f 2 hj h1 rfl; show upd v i u 2 = _; rw [hv 2 e]; exact h
      | 3, hj, h1, hg, e =>
        obtain ⟨g, e1, e2, e3, e4⟩ := F.f 3 hj h1 rfl
        exact ⟨g, (hv 3 e).trans e1, e2.bk k (fun hs => by have := hS g hs e2.lt; omega), (hcol g e2.lt).trans e3, e4⟩
      | 4, hj, h1, hg, e => have h := F.f 4 hj h1 rfl; show upd v i u 4 = _; rw [hv 4 e]; exact h
      | 5, hj, h1, hg, e => have h := F.f 5 hj h1 rfl; show upd v i u 5 = _; rw [hv 5 e]; exact h
      | 6, hj, h1, hg, e => have h := F.f 6 hj h1 rfl; show upd v i u 6 = _; rw [hv 6 e]; exact h
      | 7, hj, h1, hg, e =>
        obtain ⟨g, e1, e2, e3, e4⟩ := F.f 7 hj h1 rfl
        exact ⟨g, (hv 7 e).trans e1, e2.bk k (fun hs => by have := hS g hs e2.lt; omega), (hcol g e2.lt).trans e3, e4⟩
      | 8, hj, h1, hg, e =>
        have hq := no_of (j := 10) hg
        obtain ⟨b, e1, e2, e3, e4⟩ := F.f 8 hj h1 hq.2
        have hb := heap_lt e2
        exact ⟨b, (hv 8 e).trans e1, k.bk e2 (fun hs => by have := hS b hs hb; omega), (hcol b hb).trans e3, e4⟩
      | 9, hj, h1, hg, e =>
        obtain ⟨b, e1, e2, e3, e4⟩ := F.f 9 hj h1 rfl
        have hb := heap_lt e2
        exact ⟨b, (hv 9 e).trans e1, k.bk e2 (fun hs => by have := hS b hs hb; omega), (hcol b hb).trans e3, e4⟩
      | 10, hj, h1, hg, e =>
        obtain ⟨q3, q8⟩ := F.d h1
        obtain ⟨b, e1, e2, e3, e4⟩ := F.f 10 hj h1 rfl
        have hb := heap_lt e2
        refine ⟨b, (hv 8 (fun q => both q8 (q ▸ hu))).trans e1, ?_, (hcol b hb).trans e3, e4⟩
        rw [hv 3 (fun q => both q3 (q ▸ hu))]
        exact k.bk e2 (fun hs => by have := hS b hs hb; omega)
  · by_cases e : i = 10
    · obtain ⟨q1, q2⟩ := h10 e; exact ⟨set_yes q1, set_yes q2⟩
    · rw [getD_set_ne false e] at h
      obtain ⟨q1, q2⟩ := F.d h; exact ⟨set_yes q1, set_yes q2⟩
theorem start_none (j : Nat) (hj : j < 11) : ¬ (Array.replicate 12 false).getD j false = true := by
  simp [Array.getD]
def MkI (w1 : World) (pb : Nat) (a1 a2 : Option Addr) (d1 d2 n1 n2 : Nat) (VA : Value) (b : Bool) (t : Array Bool) (a : Act) (w : World) : Prop := ∃ (v : Nat → Value) (col : Nat → Nat), a = { tmps := #[VA, .pointer (some ⟨pb, 0, none⟩), .slice none 0 0, .slice none 0 0, v 8, v 9, VA, .bool true, .bool false, v 0, v 1, v 2, v 3, v 4, v 5, v 6, v 7, undef, undef, undef, undef, undef, undef, undef], defers := [] } ∧ Mk w1 pb a1 a2 d1 d2 n1 n2 col v t w
set_option maxHeartbeats 16000000 in
set_option maxRecDepth 100000 in
theorem implW {w : World} {lo hi : Nat} {ta tb tc : Value} {xa xb : List Int} {l : List St} (sa : IntsR w lo hi ta xa) (sb : IntsR w lo hi tb xb) (s : StsR w lo hi tc l) (h1 : hi ≤ w.heap.size) :
    Calls Try.prog 21 #[.agg #[ta, tb, tc]] w (GotW w xa xb l) := by
  obtain ⟨a1, d1, rfl, m1⟩ := sa.len
  obtain ⟨a2, d2, rfl, m2⟩ := sb.len
  obtain ⟨a3, d3, rfl, m3⟩ := s.len
  have N0 : New w (w.alloc (.cells #[.slice a1 xa.length d1, .slice a2 xb.length d2, .slice a3 l.length d3] 37)) := (Kp.refl _ _).alloc _
  have bA_0 := alloc_heap w (.cells #[.slice a1 xa.length d1, .slice a2 xb.length d2, .slice a3 l.length d3] 37)
  have z0 : w.heap.size < (w.alloc (.cells #[.slice a1 xa.length d1, .slice a2 xb.length d2, .slice a3 l.length d3] 37)).heap.size := by simp
  have hsa := Lib.hid (sa.new h1 N0)
  have hsb := Lib.hid (sb.new h1 N0)
  have hs := Lib.hid (s.new h1 N0)
  clear sa sb s
  go_enter Try.func21, Try.ntmps21
  go_upto_region 1 with fail
  generalize w.alloc (.cells #[.slice a1 xa.length d1, .slice a2 xb.length d2, .slice a3 l.length d3] 37) = w0 at *
  obtain ⟨cA0, cA1, cA2⟩ := cells3 bA_0
  go_wp2_with fail
  refine (PgmV.implP hsa.out hsb.out hs.out (by omega)).mono ?_
  rintro e w1 ⟨rfl, hn1⟩
  have z1 := hn1.size
  have bA_1 := heap_new hn1 bA_0
  have N1 := N0.trans hn1
  have hsa1 := Lib.hid (hsa.out.new (by omega) hn1)
  have hsb1 := Lib.hid (hsb.out.new (by omega) hn1)
  have hs1 := Lib.hid (hs.out.new (by omega) hn1)
  clear cA0 cA1 cA2 hsa hsb hs bA_0 hn1 N0
  cases b1 : progB xa xb l
  · have D := Lib.hid (show wrB xa xb l = ([], []) by rw [wrB, b1]; rfl)
    clear b1
    go_wp2
    refine bodyPost_ret (results_tmp2 rfl _ _ _) rfl ⟨_, _, rfl, N1, ?_, ?_, fun b c hb => by cases hb⟩
    · rw [D.out]; exact OwnF.nil _ _ _
    · rw [D.out]; exact OwnF.nil _ _ _
  have Hb := Lib.hid b1
  obtain ⟨v12, v2⟩ := valid_len b1
  clear b1
  go_wp2_with fail
  refine wp_region_any (by kernel_rfl) ?_
  have hdr : New w1 w1.drew := (Kp.refl _ _).drew
  change wpAny _ _ _ _ _ _ _ w1.drew
  have bA_2 := Lib.hid (heap_new hdr bA_1)
  have N2 := N1.trans hdr
  have z2 := hdr.size
  have hsa2 := Lib.hid (hsa1.out.new (by omega) hdr)
  have hsb2 := Lib.hid (hsb1.out.new (by omega) hdr)
  have hs2 := Lib.hid (hs1.out.new (by omega) hdr)
  generalize w1.drew = wd at *
  clear bA_1 hdr N1 hsa1 hsb1 hs1
  refine any_inv (n := 11) (I := MkI wd w.heap.size a1 a2 d1 d2 xa.length xb.length (.agg #[.slice a1 xa.length d1, .slice a2 xb.length d2, .slice a3 l.length d3]) true) (by kernel_rfl) (by kernel_rfl) (by kernel_rfl) ?step ?last _ _ _ _ (by kernel_rfl) (by kernel_rfl) (by kernel_rfl) ?start
  case start => exact ⟨fun _ => undef, fun _ => 0, rfl, Kp.refl _ _, fun j hj h => absurd h (start_none j hj), fun h => absurd h (by decide)⟩
  case step =>
    rintro i listed a w2 hi hs ⟨v, col, rfl, F⟩ hu hall
    have hF := Lib.hid F
    have zN := F.N.size
    clear F
    match i, hi, hu, hall with
    | 0, hi, hu, hall =>
      refine wpOp_step rfl (fun K hK0 => ?_)
      have hK := Lib.hid hK0
      clear hK0
      go_simp
      exact hK.out _ _ ⟨upd v 0 (.pointer (some ⟨w.heap.size, 0, none⟩)), col, rfl, hF.out.step hs hi hu _ _ (Kp.refl (fun _ => False) w2) (fun _ f => f.elim) (fun b hb => rfl) (fun _ f => f.elim) rfl (fun e => absurd e (by decide))⟩
    | 4, hi, hu, hall =>
      refine wpOp_step rfl (fun K hK0 => ?_)
      have hK := Lib.hid hK0
      clear hK0
      go_simp
      exact hK.out _ _ ⟨upd v 4 (.pointer (some ⟨w.heap.size, 1, none⟩)), col, rfl, hF.out.step hs hi hu _ _ (Kp.refl (fun _ => False) w2) (fun _ f => f.elim) (fun b hb => rfl) (fun _ f => f.elim) rfl (fun e => absurd e (by decide))⟩
    | 1, hi, hu, hall =>
      have e1 : v 0 = .pointer (some ⟨w.heap.size, 0, none⟩) := hF.out.f 0 (by decide) (hall 0 (by kernel_rfl)) rfl
      have cP := cell_of_heap (heap_new hF.out.N bA_2.out) 0
      refine wpOp_step rfl (fun K hK0 => ?_)
      have hK := Lib.hid hK0
      clear hK0
      simp only [e1]
      go_simp
      exact hK.out _ _ ⟨upd v 1 (.slice a1 xa.length d1), col, (by simp [upd, e1]), hF.out.step hs hi hu _ _ (Kp.refl (fun _ => False) w2) (fun _ f => f.elim) (fun b hb => rfl) (fun _ f => f.elim) rfl (fun e => absurd e (by decide))⟩
    | 5, hi, hu, hall =>
      have e1 : v 4 = .pointer (some ⟨w.heap.size, 1, none⟩) := hF.out.f 4 (by decide) (hall 4 (by kernel_rfl)) rfl
      have cP := cell_of_heap (heap_new hF.out.N bA_2.out) 1
      refine wpOp_step rfl (fun K hK0 => ?_)
      have hK := Lib.hid hK0
      clear hK0
      simp only [e1]
      go_simp
      exact hK.out _ _ ⟨upd v 5 (.slice a2 xb.length d2), col, (by simp [upd, e1]), hF.out.step hs hi hu _ _ (Kp.refl (fun _ => False) w2) (fun _ f => f.elim) (fun b hb => rfl) (fun _ f => f.elim) rfl (fun e => absurd e (by decide))⟩
    | 2, hi, hu, hall =>
      have e1 : v 1 = .slice a1 xa.length d1 := hF.out.f 1 (by decide) (hall 1 (by kernel_rfl)) rfl
      refine wpOp_step rfl (fun K hK0 => ?_)
      have hK := Lib.hid hK0
      clear hK0
      simp only [e1]
      go_simp
      exact hK.out _ _ ⟨upd v 2 (.int .i64 (xa.length : Int)), col, (by simp [upd, e1]), hF.out.step hs hi hu _ _ (Kp.refl (fun _ => False) w2) (fun _ f => f.elim) (fun b hb => rfl) (fun _ f => f.elim) rfl (fun e => absurd e (by decide))⟩
    | 6, hi, hu, hall =>
      have e1 : v 5 = .slice a2 xb.length d2 := hF.out.f 5 (by decide) (hall 5 (by kernel_rfl)) rfl
      refine wpOp_step rfl (fun K hK0 => ?_)
      have hK := Lib.hid hK0
      clear hK0
      simp only [e1]
      go_simp
      exact hK.out _ _ ⟨upd v 6 (.int .i64 (xb.length : Int)), col, (by simp [upd, e1]), hF.out.step hs hi hu _ _ (Kp.refl (fun _ => False) w2) (fun _ f => f.elim) (fun b hb => rfl) (fun _ f => f.elim) rfl (fun e => absurd e (by decide))⟩
    | 3, hi, hu, hall =>
      have e1 : v 2 = .int .i64 (xa.length : Int) := hF.out.f 2 (by decide) (hall 2 (by kernel_rfl)) rfl
      have hmk := run_mk (P := Try.prog) _ _ _ _ _ Try.underlying39 info xa.length (by omega) (by omega) w2
      refine wpOp_step rfl (fun K hK0 => ?_)
      have hK := Lib.hid hK0
      clear hK0
      simp only [e1]
      go_simp
      exact hK.out _ _ ⟨upd v 3 (.slice (some ⟨w2.heap.size, 0, none⟩) xa.length xa.length), fun b => if b < w2.heap.size then col b else 3, (by simp [upd, e1]), hF.out.step hs hi hu _ _ ((Kp.refl (fun _ => False) w2).alloc _) (fun _ f => f.elim) (fun b hb => if_pos hb) (fun _ f => f.elim) ⟨_, rfl, RowB.made w2 _, if_neg (Nat.lt_irrefl _), zN⟩ (fun e => absurd e (by decide))⟩
    | 7, hi, hu, hall =>
      have e1 : v 6 = .int .i64 (xb.length : Int) := hF.out.f 6 (by decide) (hall 6 (by kernel_rfl)) rfl
      have hmk := run_mk (P := Try.prog) _ _ _ _ _ Try.underlying39 info xb.length (by omega) (by omega) w2
      refine wpOp_step rfl (fun K hK0 => ?_)
      have hK := Lib.hid hK0
      clear hK0
      simp only [e1]
      go_simp
      exact hK.out _ _ ⟨upd v 7 (.slice (some ⟨w2.heap.size, 0, none⟩) xb.length xb.length), fun b => if b < w2.heap.size then col b else 7, (by simp [upd, e1]), hF.out.step hs hi hu _ _ ((Kp.refl (fun _ => False) w2).alloc _) (fun _ f => f.elim) (fun b hb => if_pos hb) (fun _ f => f.elim) ⟨_, rfl, RowB.made w2 _, if_neg (Nat.lt_irrefl _), zN⟩ (fun e => absurd e (by decide))⟩
    | 8, hi, hu, hall =>
      refine wpOp_step rfl (fun K hK0 => ?_)
      have hK := Lib.hid hK0
      clear hK0
      go_simp
      exact hK.out _ _ ⟨upd v 8 (.pointer (some ⟨w2.heap.size, 0, none⟩)), fun b => if b < w2.heap.size then col b else 8, rfl, hF.out.step hs hi hu _ _ ((Kp.refl (fun _ => False) w2).alloc _) (fun _ f => f.elim) (fun b hb => if_pos hb) (fun _ f => f.elim) ⟨_, rfl, alloc_heap _ _, if_neg (Nat.lt_irrefl _), zN⟩ (fun e => absurd e (by decide))⟩
    | 9, hi, hu, hall =>
      refine wpOp_step rfl (fun K hK0 => ?_)
      have hK := Lib.hid hK0
      clear hK0
      go_simp
      exact hK.out _ _ ⟨upd v 9 (.pointer (some ⟨w2.heap.size, 0, none⟩)), fun b => if b < w2.heap.size then col b else 9, rfl, hF.out.step hs hi hu _ _ ((Kp.refl (fun _ => False) w2).alloc _) (fun _ f => f.elim) (fun b hb => if_pos hb) (fun _ f => f.elim) ⟨_, rfl, alloc_heap _ _, if_neg (Nat.lt_irrefl _), zN⟩ (fun e => absurd e (by decide))⟩
    | 10, hi, hu, hall =>
      obtain ⟨g, e3, x3, c3, q3⟩ := hF.out.f 3 (by decide) (hall 3 (by kernel_rfl)) rfl
      obtain ⟨b, e8, x8, c8, q8⟩ := hF.out.f 8 (by decide) (hall 8 (by kernel_rfl)) (by simpa [gate] using hu)
      have dc := cell_of_heap x8 0
      have df := frozen_of_heap x8
      have dl := heap_lt x8
      refine wpOp_step rfl (fun K hK0 => ?_)
      have hK := Lib.hid hK0
      clear hK0
      simp only [e3, e8]
      go_simp
      exact hK.out _ _ ⟨upd v 10 undef, col, (by simp [upd, e3, e8]), hF.out.step hs hi hu _ _ ((Kp.refl (fun k => k = b) w2).setCell (.inl rfl) _) (fun c e => by subst e; exact q8) (fun _ _ => rfl) (fun c e _ => by subst e; exact ⟨rfl, c8⟩) ⟨b, by simp [upd, e8], by rw [show upd v 10 undef 3 = (.slice (some ⟨g, 0, none⟩) xa.length xa.length) from (if_neg (by decide)).trans e3]; exact setCell_heap (o := 0) x8 _, c8, q8⟩ (fun _ => ⟨hall 3 (by kernel_rfl), hall 8 (by kernel_rfl)⟩)⟩
  case last =>
    rintro listed a w2 ⟨v, col, rfl, F⟩ hall
    obtain ⟨g1, e3, x3, c3, q3⟩ := F.f 3 (by decide) (hall 3 (by decide)) rfl
    obtain ⟨g2, e7, x7, c7, q7⟩ := F.f 7 (by decide) (hall 7 (by decide)) rfl
    obtain ⟨bc, e8, x8, c8, q8⟩ := F.f 10 (by decide) (hall 10 (by decide)) rfl
    obtain ⟨bd, e9, x9, c9, q9⟩ := F.f 9 (by decide) (hall 9 (by decide)) rfl
    have hN := F.N
    have zN := hN.size
    rw [e3] at x8
    have n12 : g1 ≠ g2 := fun e => by subst e; omega
    have n1c : bc ≠ g1 ∧ bc ≠ g2 := ⟨fun e => by subst e; omega, fun e => by subst e; omega⟩
    have n1d : bd ≠ g1 ∧ bd ≠ g2 := ⟨fun e => by subst e; omega, fun e => by subst e; omega⟩
    have ncd : bd ≠ bc := fun e => by subst e; omega
    have bA := heap_new hN bA_2.out
    have hsa3 := Lib.hid (hsa2.out.new (by omega) hN)
    have hsb3 := Lib.hid (hsb2.out.new (by omega) hN)
    have hs3 := Lib.hid (hs2.out.new (by omega) hN)
    have N3 := N2.trans hN
    have kz : Kp (fun b => b = bd) w2 (w2.setCell ⟨bd, 0, none⟩ (.slice (some ⟨g2, 0, none⟩) xb.length xb.length)) := (Kp.refl (fun b => b = bd) _).setCell (.inl rfl) _
    have X := Lib.hid (show TwoRows bc bd g1 g2 xa.length xb.length (w2.setCell ⟨bd, 0, none⟩ (.slice (some ⟨g2, 0, none⟩) xb.length xb.length)) (List.replicate xa.length false, List.replicate xb.length false) from ⟨kz.bk x8 (by omega), setCell_heap (o := 0) x9 _, x3.bk kz (by omega), x7.bk kz (by omega), by simp, by simp⟩)
    have dl := heap_lt x9
    have cl := heap_lt x8
    have dc := cell_of_heap x9 0
    have df := frozen_of_heap x9
    have kl1 := x3.lt
    have kl2 := x7.lt
    have q10 : wd.heap.size ≤ bd := q9
    simp only [List.drop_succ_cons, List.drop_zero, e3, e7, e8, e9]
    have N4 := New.one N3 kz (by omega)
    have hsa4 := Lib.hid (hsa3.out.kp kz (by omega) (fun b e => by omega))
    have hsb4 := Lib.hid (hsb3.out.kp kz (by omega) (fun b e => by omega))
    have hs4 := Lib.hid (hs3.out.kp kz (by omega) (fun b e => by omega))
    have bA4 := kz.bk bA (by omega)
    have z4 := kz.size
    clear F hall e3 e7 e8 e9 x3 x7 x8 x9 hsa2 hsb2 hs2 hsa3 hsb3 hs3 bA_2 bA N2 N3 hN kz c3 c7 c8 c9
    obtain ⟨cA0, cA1, cA2⟩ := cells3 bA4
    go_upto_region 4 with fail
    generalize w2.setCell ⟨bd, 0, none⟩ (.slice (some ⟨g2, 0, none⟩) xb.length xb.length) = w4 at *
    clear dc df
    go_wp2_with fail
    clear cA0 cA1 cA2
    refine (Each.does 63 (enters_of Try.func63 (by kernel_rfl) rfl) #[.pointer (some ⟨bc, 0, none⟩), .pointer (some ⟨bd, 0, none⟩)] (fun k => k = g1 ∨ k = g2) lo hi w4.heap.size xa xb (TwoRows bc bd g1 g2 xa.length xb.length) (fun s _ a => wrG s a) (told1 lo hi w4.heap.size bc bd g1 g2 _ _ n12 n1c n1d) (fun _ _ _ h k => h.new k) (fun _ e => by omega) (fun _ e => by omega) _ w4 _ _ _ _ l 0 5 _ (Nat.lt_succ_self _) hsa4.out hsb4.out hs4.out (by omega) (Nat.le_refl _) (valid_bl Hb.out) X.out).mono ?_
    rintro e w5 ⟨rfl, k5, hR⟩
    have N5 : New w w5 := New.on N4 k5 (fun i e => by omega)
    rw [eachL_fold] at hR
    have hwr := Lib.hid (show foldL wrG l (List.replicate xa.length false, List.replicate xb.length false) = wrB xa xb l by rw [wrB, Hb.out]; rfl)
    have hR2 := Lib.hid hR
    have c5 := cell_of_heap hR.c 0
    have d5 := cell_of_heap hR.d 0
    have z5 := k5.size
    clear hR X Hb bA4 hsa4 hsb4 hs4 k5 N4
    go_wp2_with fail
    go_quiet (fail)
    go_wp2
    refine bodyPost_ret (results_tmp2 rfl _ _ _) rfl ⟨_, _, rfl, drewN_kp _ _ N5, ?_, ?_, fun b c hb hc => by
      have e1 : b = g1 := by simp [Value.ownBlock] at hb; exact hb.symm
      have e2 : c = g2 := by simp [Value.ownBlock] at hc; exact hc.symm
      omega⟩
    · rw [← hwr.out]
      have h := hR2.out
      have hx : OwnF 1 encB w5 w.heap.size 4 _ _ := RowB.own h.x (base := w.heap.size) (by omega) (by have := h.lx; omega)
      rw [h.lx] at hx
      exact hx.new (drewN_kp _ _ (Kp.refl _ _))
    · rw [← hwr.out]
      have h := hR2.out
      have hy : OwnF 1 encB w5 w.heap.size 4 _ _ := RowB.own h.y (base := w.heap.size) (by omega) (by have := h.ly; omega)
      rw [h.ly] at hy
      exact hy.new (drewN_kp _ _ (Kp.refl _ _))
set_option maxHeartbeats 4000000 in
theorem specW {w : World} {lo hi : Nat} {ta tb tc : Value} {xa xb : List Int} {l : List St} (sa : IntsR w lo hi ta xa) (sb : IntsR w lo hi tb xb) (s : StsR w lo hi tc l) (h1 : hi ≤ w.heap.size) (hm : St.sizes l ≤ 1048576) :
    Calls Try.prog 22 #[.agg #[ta, tb, tc]] w (GotW w xa xb l) := by
  obtain ⟨a1, d1, rfl, m1⟩ := sa.len
  obtain ⟨a2, d2, rfl, m2⟩ := sb.len
  obtain ⟨a3, d3, rfl, m3⟩ := s.len
  have N0 : New w (w.alloc (.cells #[.slice a1 xa.length d1, .slice a2 xb.length d2, .slice a3 l.length d3] 37)) := (Kp.refl _ _).alloc _
  have bA_0 := alloc_heap w (.cells #[.slice a1 xa.length d1, .slice a2 xb.length d2, .slice a3 l.length d3] 37)
  have z0 : w.heap.size < (w.alloc (.cells #[.slice a1 xa.length d1, .slice a2 xb.length d2, .slice a3 l.length d3] 37)).heap.size := by simp
  have hsa := Lib.hid (sa.new h1 N0)
  have hsb := Lib.hid (sb.new h1 N0)
  have hs := Lib.hid (s.new h1 N0)
  clear sa sb s
  go_enter Try.func22, Try.ntmps22
  go_upto_region 1 with fail
  generalize w.alloc (.cells #[.slice a1 xa.length d1, .slice a2 xb.length d2, .slice a3 l.length d3] 37) = w0 at *
  obtain ⟨cA0, cA1, cA2⟩ := cells3 bA_0
  go_wp2_with fail
  refine (PgmV.specP hsa.out hsb.out hs.out (by omega) hm).mono ?_
  rintro e w1 ⟨rfl, hn1⟩
  have z1 := hn1.size
  have bA_1 := heap_new hn1 bA_0
  have N1 := N0.trans hn1
  have hs1 := Lib.hid (hs.out.new (by omega) hn1)
  clear cA0 cA1 cA2 hsa hsb hs bA_0 hn1 N0
  cases b1 : progB xa xb l
  · have D := Lib.hid (show wrB xa xb l = ([], []) by rw [wrB, b1]; rfl)
    clear b1
    go_wp2
    have kA : New w1 (w1.alloc (.cells #[] 4)) := (Kp.refl _ _).alloc _
    have kB : New (w1.alloc (.cells #[] 4)) ((w1.alloc (.cells #[] 4)).alloc (.cells #[] 4)) := (Kp.refl _ _).alloc _
    have hz : (w1.alloc (.cells #[] 4)).heap.size = w1.heap.size + 1 := by simp
    refine bodyPost_ret (results_tmp2 rfl _ _ _) rfl ⟨_, _, rfl, (N1.trans kA).trans kB, ?_, ?_, fun b c hb hc => by
      have e1 : b = w1.heap.size := by simp [Value.ownBlock] at hb; exact hb.symm
      have e2 : c = w1.heap.size + 1 := by simp [Value.ownBlock] at hc; exact hc.symm
      omega⟩
    · rw [D.out]; exact (OwnF.empty w1 4 (by omega)).new kB
    · rw [D.out]
      have h := OwnF.empty (enc := encB) (n := 1) (w1.alloc (.cells #[] 4)) 4 (base := w.heap.size) (by omega)
      rw [hz] at h
      exact h
  have Hb := Lib.hid b1
  obtain ⟨v12, v2⟩ := valid_len b1
  clear b1
  obtain ⟨cA0, cA1, cA2⟩ := cells3 bA_1
  have hmk1 := run_mk (P := Try.prog) _ _ _ _ _ Try.underlying39 info xa.length (by omega) (by omega) w1
  have kA : New w1 (w1.alloc (.cells (mkCells (.bool false) 1 xa.length) 4)) := (Kp.refl _ _).alloc _
  have R1 := RowB.made w1 xa.length
  have bA_2 := heap_new kA bA_1
  obtain ⟨cB0, cB1, cB2⟩ := cells3 bA_2
  have zA : w1.heap.size < (w1.alloc (.cells (mkCells (.bool false) 1 xa.length) 4)).heap.size := by simp
  go_upto_region 4 with fail
  generalize hg1 : w1.heap.size = g1 at R1 zA ⊢
  generalize w1.alloc (.cells (mkCells (.bool false) 1 xa.length) 4) = w2 at *
  clear hmk1 cA0 cA1 cA2 bA_1
  have hmk2 := run_mk (P := Try.prog) _ _ _ _ _ Try.underlying39 info xb.length (by omega) (by omega) w2
  have kB : New w2 (w2.alloc (.cells (mkCells (.bool false) 1 xb.length) 4)) := (Kp.refl _ _).alloc _
  have R2 := RowB.made w2 xb.length
  have bA_3 := heap_new kB bA_2
  obtain ⟨cC0, cC1, cC2⟩ := cells3 bA_3
  have zB : w2.heap.size < (w2.alloc (.cells (mkCells (.bool false) 1 xb.length) 4)).heap.size := by simp
  go_upto_region 5 with fail
  generalize hg2 : w2.heap.size = g2 at R2 zB ⊢
  generalize w2.alloc (.cells (mkCells (.bool false) 1 xb.length) 4) = w3 at *
  clear hmk2 cB0 cB1 cB2 bA_2
  have R1b := R1.bk kB (fun f => f)
  have N3 := (N1.trans kA).trans kB
  have hs3 := Lib.hid ((hs1.out.new (by omega) kA).new (by omega) kB)
  go_wp2_with fail
  clear cC0 cC1 cC2
  refine (WrC.mark g1 g2 xa.length xb.length (by omega) _ w3 lo hi 5 _ l (List.replicate xa.length false, List.replicate xb.length false) (Nat.lt_succ_self _) hs3.out (by omega) (valid_bl Hb.out) (by omega) (by omega) R1b R2 (by simp) (by simp)).mono ?_
  rintro e w5 ⟨rfl, k5, X5, Y5⟩
  have N5 : New w w5 := New.on N3 k5 (fun i e => by omega)
  have hlx := foldL_wr l (List.replicate xa.length false, List.replicate xb.length false)
  have e1 : (foldL wrG l (List.replicate xa.length false, List.replicate xb.length false)).1.length = xa.length := by simpa using hlx.1
  have e2 : (foldL wrG l (List.replicate xa.length false, List.replicate xb.length false)).2.length = xb.length := by simpa using hlx.2
  have hx := RowB.own X5 (base := w.heap.size) (by omega) (by omega)
  have hy := RowB.own Y5 (base := w.heap.size) (by omega) (by omega)
  rw [e1] at hx
  rw [e2] at hy
  have hwr : foldL wrG l (List.replicate xa.length false, List.replicate xb.length false) = wrB xa xb l := by rw [wrB, Hb.out]; rfl
  rw [hwr] at hx hy
  have hxh := Lib.hid hx
  have hyh := Lib.hid hy
  clear hlx e1 e2 hx hy hwr X5 Y5 R1 R1b R2 bA_3 hs3 Hb k5 N3
  have hne : g1 ≠ g2 := by omega
  go_wp2
  refine bodyPost_ret (results_tmp2 rfl _ _ _) rfl ⟨.slice (some ⟨g1, 0, none⟩) xa.length xa.length, .slice (some ⟨g2, 0, none⟩) xb.length xb.length, rfl, N5, hxh.out, hyh.out, fun b c hb hc => by
    have e1 : b = g1 := by simp [Value.ownBlock] at hb; exact hb.symm
    have e2 : c = g2 := by simp [Value.ownBlock] at hc; exact hc.symm
    omega⟩

end Go.Proofs.Ytckikiaockkmbaa.WrI
