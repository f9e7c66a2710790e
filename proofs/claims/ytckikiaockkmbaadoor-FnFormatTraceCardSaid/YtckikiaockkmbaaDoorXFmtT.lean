/- FormatTrace of spec and of impl. Conditions: at most 2^21 events; for impl the table of powers of ten lies as the program lays it. -/
import Derived.Test.YtckikiaockkmbaaDoorXDecT
import Derived.Test.YtckikiaockkmbaaDoorXP2
import Derived.Test.YtckikiaockkmbaaDoorXP1
import Derived.Deep.RegionHeld3
import Derived.RegionTactic
namespace Go.Proofs.YtckikiaockkmbaaDoor.FmtT
open Go.RowKit Kit FmtP
set_option linter.unusedVariables false
theorem addS (a b : ByteArray) (h : a.size + b.size ≤ 9223372036854775807) : ∀ wx, (binOp .add 9 (.string a) (.string b)).run Tryd.prog wx = .ok (.string (a ++ b)) wx := fun wx => run_string_add_sum wx _ _ h
theorem addO (a b : ByteArray) (h : a.size + b.size ≤ 9223372036854775807) : ∀ wx, (Op.stringOp .add a b).run Tryd.prog wx = .ok (.string (a ++ b)) wx := fun wx => run_string_add_sum wx _ _ h
theorem adds4 (t1 D : ByteArray) (h : t1.size ≤ 10485761) (hd : D.size ≤ 3) (C : ByteArray) (hC : C.size = 1) :
    (∀ wx, (binOp .add 9 (.string t1) (.string C)).run Tryd.prog wx = .ok (.string (t1 ++ C)) wx) ∧ (∀ wx, (Op.stringOp .add t1 C).run Tryd.prog wx = .ok (.string (t1 ++ C)) wx) ∧
    (∀ wx, (binOp .add 9 (.string (t1 ++ C)) (.string D)).run Tryd.prog wx = .ok (.string (t1 ++ C ++ D)) wx) ∧ (∀ wx, (Op.stringOp .add (t1 ++ C) D).run Tryd.prog wx = .ok (.string (t1 ++ C ++ D)) wx) := by
  have h1 : t1.size + C.size ≤ 9223372036854775807 := by omega
  have h2 : (t1 ++ C).size + D.size ≤ 9223372036854775807 := by rw [ByteArray.size_append]; omega
  exact ⟨addS _ _ h1, addO _ _ h1, addS _ _ h2, addO _ _ h2⟩
theorem bad_cases {k u : Int} (h : evOk (k, u) = false) : k < 1 ∨ (¬ k < 1 ∧ 4 < k) ∨ (¬ k < 1 ∧ ¬ 4 < k ∧ u < 0) ∨ (¬ k < 1 ∧ ¬ 4 < k ∧ ¬ u < 0 ∧ 255 < u) := by
  simp [evOk] at h; omega
theorem ok_cases {k u : Int} (h : evOk (k, u) = true) : (k = 1 ∨ k = 2 ∨ k = 3 ∨ k = 4) ∧ ∃ n : Nat, u = (n : Int) ∧ n ≤ 255 := by
  simp [evOk] at h; exact ⟨by omega, u.toNat, by omega, by omega⟩
theorem slC {k : Int} {C : ByteArray} (hk : k = 1 ∨ k = 2 ∨ k = 3 ∨ k = 4) (hC : C = ⟨#[sg k]⟩) : ∀ wx, (Instr.slice 9 (.string ⟨#[98, 114, 119, 111]⟩) (some (.int .i64 (k - 1))) (some (.int .i64 k)) none).run Tryd.prog wx = .ok (.string C) wx := by
  intro wx
  rw [hC]
  rcases hk with rfl | rfl | rfl | rfl <;> kernel_rfl
set_option maxRecDepth 100000 in
set_option maxHeartbeats 8000000 in
theorem specFmt (w : World) (lo hi : Nat) (s : Value) (xs : List Ev) (hs : EvsR w lo hi s xs) (h1 : hi ≤ w.heap.size) (hm : xs.length ≤ 2097152) :
    Calls Tryd.prog 7 #[s] w fun e w' => e = .returned (.string ⟨(text xs).toArray⟩) ∧ New w w' := by
  obtain ⟨a, c, rfl, hl1⟩ := hs.len
  go_enter Tryd.func7, Tryd.ntmps7
  go_wp2_with fail
  go_loopw [3, 4] (fun v i wr => ∃ (j : Nat) (t : ByteArray), j ≤ xs.length ∧ i = .int .i64 j ∧ v = .string t ∧ New w wr ∧ Hid (t.data.toList = words (xs.take j)) ∧ Hid (good (xs.take j) = true)) (fun _ i _ => xs.length - (intOf i).toNat)
  case atStart => exact ⟨0, _, Nat.zero_le _, rfl, rfl, Kp.refl _ _, Lib.hid rfl, Lib.hid rfl⟩
  case round =>
    obtain ⟨j, t, hj, rfl, rfl, N, hT, hG⟩ := hrel
    by_cases hlt : j < xs.length
    · obtain ⟨b, o, rfl, hb1, hb2, c0, c1⟩ := hs.at j hlt
      have g0 := (N.cell (b := b) (by omega) (fun f => f) (o + j * 2)).trans c0
      have g1 := (N.cell (b := b) (by omega) (fun f => f) (o + j * 2 + 1)).trans c1
      have hts := List.take_succ_eq_append_getElem hlt
      have hNh := Lib.hid N
      clear c0 c1 N
      cases hok : evOk xs[j]
      · have hbad := Lib.hid (show text xs = [] by rw [text, good_bad hlt hok]; rfl)
        generalize xs[j] = x at *
        obtain ⟨k, u⟩ := x
        have hq := bad_cases hok
        clear hts hs hok
        rcases hq with q1 | ⟨q1, q2⟩ | ⟨q1, q2, q3⟩ | ⟨q1, q2, q3, q4⟩
        all_goals
          go_wp2
          go_ret
          exact ⟨by rw [hbad.out]; rfl, hNh.out.alloc _⟩
      · have hG2 := Lib.hid (show good (xs.take (j + 1)) = true by rw [hts, good_snoc, hG.out, hok]; rfl)
        have hT2 := Lib.hid (show words (xs.take (j + 1)) = if j = 0 then evB xs[j] else words (xs.take j) ++ [32] ++ evB xs[j] by rw [hts, words_snoc, List.length_take, Nat.min_eq_left (by omega)])
        have htl : t.size ≤ 10485760 := by
          have h1 := words_len _ hG.out
          rw [List.length_take, Nat.min_eq_left (by omega), ← hT.out, ← size_toList] at h1; omega
        generalize xs[j] = x at *
        obtain ⟨k, u⟩ := x
        obtain ⟨hk, n, rfl, hn⟩ := ok_cases hok
        have hdl := dg_len (n := n) (by omega)
        have kA : New wr (wr.alloc (.cells #[.int .i64 k, .int .i64 n] 54)) := (Kp.refl _ _).alloc _
        have bE0 := alloc_heap wr (.cells #[.int .i64 k, .int .i64 n] 54)
        have hev : evB (k, (n : Int)) = sg k :: dg n := rfl
        rw [hev] at hT2
        obtain ⟨D, hD⟩ : ∃ D : ByteArray, ⟨(dg n).toArray⟩ = D := ⟨_, rfl⟩
        have hDl : D.size ≤ 3 := by rw [← hD, size_toList]; simpa using hdl.2
        have hDt : D.data.toList = dg n := by rw [← hD]
        have hDh := Lib.hid hD
        clear hD hev hts hs hok hG
        have hsub : ∃ t1 : ByteArray, t1.size ≤ 10485761 ∧ ((j = 0 ∧ t1 = t) ∨ (0 < j ∧ t1 = t ++ ⟨#[32]⟩)) ∧ Hid (∀ C : ByteArray, C = ⟨#[sg k]⟩ → (t1 ++ C ++ D).data.toList = words (xs.take (j + 1))) := by
          by_cases hj0 : j = 0
          · subst hj0
            refine ⟨t, by omega, .inl ⟨rfl, rfl⟩, Lib.hid fun C hC => ?_⟩
            rw [hT2.out, if_pos rfl, app_toList, app_toList, hT.out, hC, hDt]; simp [words, Lib.join_nil]
          · refine ⟨t ++ ⟨#[32]⟩, by rw [ByteArray.size_append]; have : (⟨#[32]⟩ : ByteArray).size = 1 := rfl; omega, .inr ⟨by omega, rfl⟩, Lib.hid fun C hC => ?_⟩
            rw [hT2.out, if_neg hj0, app_toList, app_toList, app_toList, hT.out, hC, hDt]; simp
        obtain ⟨t1, ht1, hcase, hfin⟩ := hsub
        have hs32 : (⟨#[32]⟩ : ByteArray).size = 1 := rfl
        have aS := addS t ⟨#[32]⟩ (by omega)
        have aO := addO t ⟨#[32]⟩ (by omega)
        have hts1 := Lib.hid ht1
        have hCs := Lib.hid (adds4 t1 D ht1 hDl)
        clear hT2 hT hDt hdl ht1 hs32 htl hDl
        rcases hcase with ⟨hj0, ht⟩ | ⟨hj0, ht⟩
        · have hjI : ¬ (0 : Int) < (j : Int) := by omega
          have hjh := Lib.hid hj0
          subst ht
          clear aS aO hj0
          obtain ⟨C, hC⟩ : ∃ C : ByteArray, C = ⟨#[sg k]⟩ := ⟨_, rfl⟩
          have q := slC hk hC
          have hk1 : k ≤ 4 ∧ 1 ≤ k := by omega
          have hf := Lib.hid (hfin.out C hC)
          obtain ⟨b1, b2, b3, b4⟩ := hCs.out C (by rw [hC]; rfl)
          have hw : IntKind.i64.wrap (k - 1) = k - 1 := IntWalk.i64_in _ (by omega)
          obtain ⟨k1, hk2⟩ := hk1
          clear hC hfin hCs hk
          go_upto_region 10 with fail
          generalize hbE : wr.heap.size = bE at bE0 ⊢
          clear hbE
          generalize wr.alloc (.cells #[.int .i64 k, .int .i64 n] 54) = w1 at *
          obtain ⟨c0, c1⟩ := cells2 bE0
          have hlE := heap_lt bE0
          go_wp2_with fail
          refine wp_region_held_drew (S := fun w' => w'.cell? ⟨bE, 0, none⟩ = some (.int .i64 k) ∧ w'.cell? ⟨bE, 1, none⟩ = some (.int .i64 n)) (by kernel_rfl) ?_ (fun hHeld => ?_)
          · exact ⟨c0, c1⟩
          refine HT 0 rfl ?_
          try simp only [AP]
          refine HT 1 rfl ?_
          try simp only [AP]
          refine HT 2 rfl ?_
          try simp only [AP]
          refine HT 3 rfl ?_
          try simp only [AP]
          refine HT 4 rfl ?_
          try simp only [AP]
          refine HT 5 rfl ?_
          try simp only [AP]
          refine HT 6 rfl ?_
          try simp only [AP]
          refine HT 7 rfl ?_
          try simp only [AP]
          refine HT 8 rfl ?_
          try simp only [AP]
          refine HT 9 rfl ?_
          try simp only [AP]
          refine HR 10 rfl fun K hK => ?_
          go_simp
          refine (DecT.l17Dec _ n (by omega)).mono ?_
          rintro e w3 ⟨rfl, hn3⟩
          rw [hDh.out]
          have f0 := (hn3.cell (b := bE) hlE (fun f => f) 0).trans c0
          have f1 := (hn3.cell (b := bE) hlE (fun f => f) 1).trans c1
          refine hK.out _ _ ?_ (fun hHeld2 => ?_)
          · exact ⟨f0, f1⟩
          clear hK K hHeld
          have hHeld := hHeld2
          clear hHeld2
          try simp only [AP]
          refine HT 11 rfl ?_
          try simp only [AP]
          refine HT 12 rfl ?_
          try simp only [AP]
          refine wpAnyH_done (by kernel_rfl) ?_ _
          have N3 := Lib.hid (((hNh.out.trans kA).drew).trans hn3)
          clear hNh kA hn3 f0 f1 c0 c1 g0 g1
          go_wp2
          go_roundw
          case rel => exact ⟨j + 1, _, by omega, by go_num, rfl, N3.out, hf, hG2⟩
          case measure => simp [intOf]; omega
        · have hjI : (0 : Int) < (j : Int) := by omega
          subst ht
          clear hj0
          obtain ⟨C, hC⟩ : ∃ C : ByteArray, C = ⟨#[sg k]⟩ := ⟨_, rfl⟩
          have q := slC hk hC
          have hk1 : k ≤ 4 ∧ 1 ≤ k := by omega
          have hf := Lib.hid (hfin.out C hC)
          obtain ⟨b1, b2, b3, b4⟩ := hCs.out C (by rw [hC]; rfl)
          have hw : IntKind.i64.wrap (k - 1) = k - 1 := IntWalk.i64_in _ (by omega)
          obtain ⟨k1, hk2⟩ := hk1
          clear hC hfin hCs hk
          go_upto_region 10 with fail
          generalize hbE : wr.heap.size = bE at bE0 ⊢
          clear hbE
          generalize wr.alloc (.cells #[.int .i64 k, .int .i64 n] 54) = w1 at *
          obtain ⟨c0, c1⟩ := cells2 bE0
          have hlE := heap_lt bE0
          go_wp2_with fail
          refine wp_region_held_drew (S := fun w' => w'.cell? ⟨bE, 0, none⟩ = some (.int .i64 k) ∧ w'.cell? ⟨bE, 1, none⟩ = some (.int .i64 n)) (by kernel_rfl) ?_ (fun hHeld => ?_)
          · exact ⟨c0, c1⟩
          refine HT 0 rfl ?_
          try simp only [AP]
          refine HT 1 rfl ?_
          try simp only [AP]
          refine HT 2 rfl ?_
          try simp only [AP]
          refine HT 3 rfl ?_
          try simp only [AP]
          refine HT 4 rfl ?_
          try simp only [AP]
          refine HT 5 rfl ?_
          try simp only [AP]
          refine HT 6 rfl ?_
          try simp only [AP]
          refine HT 7 rfl ?_
          try simp only [AP]
          refine HT 8 rfl ?_
          try simp only [AP]
          refine HT 9 rfl ?_
          try simp only [AP]
          refine HR 10 rfl fun K hK => ?_
          go_simp
          refine (DecT.l17Dec _ n (by omega)).mono ?_
          rintro e w3 ⟨rfl, hn3⟩
          rw [hDh.out]
          have f0 := (hn3.cell (b := bE) hlE (fun f => f) 0).trans c0
          have f1 := (hn3.cell (b := bE) hlE (fun f => f) 1).trans c1
          refine hK.out _ _ ?_ (fun hHeld2 => ?_)
          · exact ⟨f0, f1⟩
          clear hK K hHeld
          have hHeld := hHeld2
          clear hHeld2
          try simp only [AP]
          refine HT 11 rfl ?_
          try simp only [AP]
          refine HT 12 rfl ?_
          try simp only [AP]
          refine wpAnyH_done (by kernel_rfl) ?_ _
          have N3 := Lib.hid (((hNh.out.trans kA).drew).trans hn3)
          clear hNh kA hn3 f0 f1 c0 c1 g0 g1
          go_wp2
          go_roundw
          case rel => exact ⟨j + 1, _, by omega, by go_num, rfl, N3.out, hf, hG2⟩
          case measure => simp [intOf]; omega
    · have hge : xs.length ≤ j := by omega
      have hfin := Lib.hid (show t = ⟨(text xs).toArray⟩ from ba_ext (by
        have h := hG.out
        rw [hT.out]
        rw [List.take_of_length_le hge] at h ⊢
        rw [text, if_pos h]))
      go_wp2
      go_ret
      exact ⟨by rw [← hfin.out]; rfl, N⟩
/-- an event's text -/
def evT (e : Ev) : ByteArray := ⟨(evB e).toArray⟩
theorem infoS : (Tryd.prog.info? 9).map (fun i => (i.zero, i.size, i.bytes)) = some (some (.string ⟨#[]⟩), 1, 16) := by kernel_rfl
theorem map_evT (xs : List Ev) : (xs.map evT).map (·.data.toList) = xs.map evB := by simp [evT]
theorem evOk_eq (k u : Int) : evOk (k, u) = (Lab.inside k 1 4 && Lab.inside u 0 255) := rfl
set_option maxRecDepth 100000 in
set_option maxHeartbeats 8000000 in
theorem implFmt (w : World) (lo hi : Nat) (s : Value) (xs : List Ev) (hs : EvsR w lo hi s xs) (h1 : hi ≤ w.heap.size) (hm : xs.length ≤ 2097152) (ht : DecT.Tab w) :
    Calls Tryd.prog 9 #[s] w fun e w' => e = .returned (.string ⟨(text xs).toArray⟩) ∧ New w w' := by
  obtain ⟨a, c, rfl, hl1⟩ := hs.len
  have htb := Lib.hid ht
  clear ht
  go_enter Tryd.func9, Tryd.ntmps9
  go_wp2_with fail
  go_loopw [3, 8] (fun v i wr => ∃ (j : Nat) (vv : Value), j ≤ xs.length ∧ i = .int .i64 j ∧ vv = v ∧ New w wr ∧ OwnF 1 DecT.encS wr w.heap.size 9 vv ((xs.take j).map evT) ∧ Hid (good (xs.take j) = true)) (fun _ i _ => xs.length - (intOf i).toNat)
  case atStart => exact ⟨0, _, Nat.zero_le _, rfl, rfl, Kp.refl _ _, by simpa using OwnF.nil w _ _, Lib.hid rfl⟩
  case round =>
    obtain ⟨j, vv, hj, rfl, rfl, N, hO, hG⟩ := hrel
    by_cases hlt : j < xs.length
    · obtain ⟨b, o, rfl, hb1, hb2, c0, c1⟩ := hs.at j hlt
      have g0 := (N.cell (b := b) (by omega) (fun f => f) (o + j * 2)).trans c0
      have g1 := (N.cell (b := b) (by omega) (fun f => f) (o + j * 2 + 1)).trans c1
      have hts := List.take_succ_eq_append_getElem hlt
      have hbad := Lib.hid (fun hok => show text xs = [] by rw [text, good_bad hlt hok]; rfl)
      have hG2 := Lib.hid (fun hok : evOk xs[j] = true => show good (xs.take (j + 1)) = true by rw [hts, good_snoc, hG.out, hok]; rfl)
      have hm2 := Lib.hid (show (xs.take (j + 1)).map evT = (xs.take j).map evT ++ [evT xs[j]] from map_snoc evT hlt)
      have hml := Lib.hid (show ((xs.take j).map evT).length ≤ 2097152 by rw [List.length_map, List.length_take]; omega)
      have hNh := Lib.hid N
      have zw := N.size
      clear c0 c1 N hts
      generalize xs[j] = x at *
      obtain ⟨k, u⟩ := x
      clear hs
      go_wp2_with fail
      refine (Lab.within _ _ _ _).mono ?_
      rintro r w1 ⟨rfl, rfl⟩
      cases hk1 : Lab.inside k 1 4
      · have hb := Lib.hid (hbad.out (by rw [evOk_eq, hk1]; rfl))
        clear hbad hG2 hm2 hml hO
        go_wp2
        go_ret
        exact ⟨by rw [hb.out]; rfl, hNh.out.alloc _⟩
      · go_wp2_with fail
        refine (Lab.within _ _ _ _).mono ?_
        rintro r w1 ⟨rfl, rfl⟩
        cases hu1 : Lab.inside u 0 255
        · have hb := Lib.hid (hbad.out (by rw [evOk_eq, hk1, hu1]; rfl))
          clear hbad hG2 hm2 hml hO
          go_wp2
          go_ret
          exact ⟨by rw [hb.out]; rfl, hNh.out.alloc _⟩
        · have hok : evOk (k, u) = true := by rw [evOk_eq, hk1, hu1]; rfl
          have hG3 := Lib.hid (hG2.out hok)
          obtain ⟨hk, n, rfl, hn⟩ := ok_cases hok
          clear hbad hG2 hG
          have hdl := dg_len (n := n) (by omega)
          have kA : New wr (wr.alloc (.cells #[.int .i64 k, .int .i64 n] 54)) := (Kp.refl _ _).alloc _
          have bE0 := alloc_heap wr (.cells #[.int .i64 k, .int .i64 n] 54)
          obtain ⟨D, hD⟩ : ∃ D : ByteArray, ⟨(dg n).toArray⟩ = D := ⟨_, rfl⟩
          have hDl : D.size ≤ 3 := by rw [← hD, size_toList]; simpa using hdl.2
          obtain ⟨C, hC⟩ : ∃ C : ByteArray, C = ⟨#[sg k]⟩ := ⟨_, rfl⟩
          have hCl : C.size = 1 := by rw [hC]; rfl
          have hCD := Lib.hid (show evT (k, (n : Int)) = C ++ D from (ba_ext (by rw [app_toList, hC, ← hD]; simp [evB])).symm)
          have q := slC hk hC
          have b3 := addS C D (by omega)
          have b4 := addO C D (by omega)
          have hDh := Lib.hid hD
          have hk1 : k ≤ 4 ∧ 1 ≤ k := by omega
          have hw : IntKind.i64.wrap (k - 1) = k - 1 := IntWalk.i64_in _ (by omega)
          have hw2 : IntKind.i64.wrap k = k := IntWalk.i64_in _ (by omega)
          obtain ⟨k1, hk2⟩ := hk1
          clear hC hk hD hdl hCl hDl
          have hOA := Lib.hid (hO.new kA)
          have hlt2 := Lib.hid hO.lt
          clear hO
          go_upto_region 7 with fail
          generalize hbE : wr.heap.size = bE at bE0 ⊢
          have hneE := Lib.hid (show ¬ vv.ownBlock = some bE from fun e => by have := (hlt2.out bE e).2; omega)
          have hbE1 : bE ≤ wr.heap.size := Nat.le_of_eq hbE.symm
          clear hbE
          generalize wr.alloc (.cells #[.int .i64 k, .int .i64 n] 54) = w1 at *
          obtain ⟨c0, c1⟩ := cells2 bE0
          have hlE := heap_lt bE0
          have z1 := kA.size
          go_wp2_with fail
          refine wp_region_held_drew (S := fun w' => w'.cell? ⟨bE, 0, none⟩ = some (.int .i64 k) ∧ w'.cell? ⟨bE, 1, none⟩ = some (.int .i64 n)) (by kernel_rfl) ?_ (fun hHeld => ?_)
          · exact ⟨c0, c1⟩
          refine HT 0 rfl ?_
          try simp only [AP]
          refine HT 1 rfl ?_
          try simp only [AP]
          refine HT 2 rfl ?_
          try simp only [AP]
          refine HT 3 rfl ?_
          try simp only [AP]
          refine HT 4 rfl ?_
          try simp only [AP]
          refine HT 5 rfl ?_
          try simp only [AP]
          refine HT 6 rfl ?_
          try simp only [AP]
          refine HT 7 rfl ?_
          try simp only [AP]
          refine HT 8 rfl ?_
          try simp only [AP]
          refine HT 9 rfl ?_
          try simp only [AP]
          refine HT 10 rfl ?_
          try simp only [AP]
          refine HR 11 rfl fun K hK => ?_
          go_simp
          refine (DecT.itoa _ n (by omega) (by omega) (htb.out.new ((hNh.out.trans kA).drew))).mono ?_
          rintro e w3 ⟨rfl, hn3⟩
          rw [Int.toNat_natCast, hDh.out]
          have f0 := (hn3.cell (b := bE) hlE (fun f => f) 0).trans c0
          have f1 := (hn3.cell (b := bE) hlE (fun f => f) 1).trans c1
          have y3 : w1.heap.size ≤ w3.heap.size := Nat.le_trans (Nat.le_refl _) hn3.size
          refine hK.out _ _ ?_ (fun hHeld2 => ?_)
          · exact ⟨f0, f1⟩
          clear hK K hHeld
          have hHeld := hHeld2
          clear hHeld2
          try simp only [AP]
          refine HT 12 rfl ?_
          try simp only [AP]
          refine HR 13 rfl fun K hK => ?_
          go_simp
          refine hK.out _ _ ?_ (fun hHeld2 => ?_)
          · exact ⟨(World.cell?_alloc_lt _ _ _ (cell_lt f0)).trans f0, (World.cell?_alloc_lt _ _ _ (cell_lt f1)).trans f1⟩
          clear hK K hHeld
          have hHeld := hHeld2
          clear hHeld2
          try simp only [AP]
          refine HR 14 rfl fun K hK => ?_
          refine step_pushes rfl (.tmp 22) (.tmp 35) 58 rfl w.heap.size 9 _ 16 Tryd.underlying58 infoS rfl (by decide) vv _ rfl (((hOA.out.new ((Kp.refl _ _).drew)).new hn3).new ((Kp.refl _ _).alloc _)) _ [C ++ D] rfl (FlR.one (b := w3.heap.size) fun t ht => by obtain rfl : t = 0 := (by omega); exact World.cell?_alloc_new _ _ _ _) (fun _ _ _ => rfl) ?_ ?_ ?_ ?_
          · have := hml.out; simp only [List.length_cons, List.length_nil]; omega
          · have := hml.out; simp only [List.length_cons, List.length_nil]; omega
          · simp; omega
          intro v2 w4 hv2 hk4 ha4
          have f2 := (hk4.cell (b := bE) (by simp; omega) hneE.out 0).trans ((World.cell?_alloc_lt _ _ _ (cell_lt f0)).trans f0)
          have f3 := (hk4.cell (b := bE) (by simp; omega) hneE.out 1).trans ((World.cell?_alloc_lt _ _ _ (cell_lt f1)).trans f1)
          refine hK.out _ _ ?_ (fun hHeld2 => ?_)
          · exact ⟨f2, f3⟩
          clear hK K hHeld
          have hHeld := hHeld2
          clear hHeld2
          try simp only [AP]
          refine HT 15 rfl ?_
          try simp only [AP]
          refine wpAnyH_done (by kernel_rfl) ?_ _
          have N5 := Lib.hid (New.on (((hNh.out.trans kA).drew.trans hn3).alloc _) hk4 (fun i hi => (hlt2.out i hi).1))
          have hO5 := Lib.hid (show OwnF 1 DecT.encS w4 w.heap.size 9 v2 ((xs.take (j + 1)).map evT) by rw [hm2.out, hCD.out]; exact hv2)
          clear hNh kA hn3 f0 f1 c0 c1 g0 g1 hv2 hk4 ha4 hOA hlt2 hneE
          go_wp2
          go_roundw
          case rel => exact ⟨j + 1, _, by omega, by go_num, rfl, N5.out, hO5.out, hG3⟩
          case measure => simp [intOf]; omega
    · have hge : xs.length ≤ j := by omega
      have hg := hG.out
      rw [List.take_of_length_le hge] at hO hg
      have hfin := Lib.hid (show (⟨(Lib.join ((xs.map evT).map (·.data.toList)) [32]).toArray⟩ : ByteArray) = ⟨(text xs).toArray⟩ by rw [map_evT, text, if_pos hg]; rfl)
      have hln : (Lib.join ((xs.map evT).map (·.data.toList)) [32]).length ≤ 140737488355328 := by
        have := words_len xs hg
        rw [map_evT]; unfold words at this; omega
      clear hG hg
      go_wp2_with fail
      refine (DecT.join _ _ _ _ hO (by simpa using hm) hln).mono ?_
      rintro e w5 ⟨rfl, hn5⟩
      rw [hfin.out]
      have N5 := Lib.hid (N.trans hn5)
      clear hfin hln N hn5 hO
      go_wp2
      go_ret
      exact ⟨rfl, N5.out⟩
end Go.Proofs.YtckikiaockkmbaaDoor.FmtT
