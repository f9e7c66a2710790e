/- Small texts: l17Dec, l2Var of spec; varText, arrayText of impl; strconv.Itoa and strings.Join in plain words. Conditions: numbers at most 255, names in range; for Itoa the table of powers of ten lies as the program lays it. -/
import Derived.Test.YtckikiaockkmbaaDoorChecked
import Derived.Test.YtckikiaockkmbaaDoorYFmtP
import Derived.Deep.QuietTactic
import Derived.BigQuiet
import Derived.Deep.LoopGhost
import Derived.Deep.DeepCutAuto
import Derived.WalkKit
import Derived.Test.YtckikiaockkmbaaDoorYShelf
import Derived.Lib.SmallJoins
import Derived.Sort.Grow
import Derived.Test.YtckikiaockkmbaaDoorYP2
import Derived.ProofKit
namespace Go.Proofs.YtckikiaockkmbaaDoor.DecT
open Go.RowKit Kit FmtP
set_option linter.unusedVariables false
/-- one byte in a new row, read as a string -/
theorem conv1 (w : World) (c : UInt8) : (convert 50 9 (.slice (some ⟨w.heap.size, 0, none⟩) 1 1)).run Tryd.prog (w.alloc (.cells #[.int .u8 (c.toNat : Int)] 5)) = .ok (.string ⟨#[c]⟩) (w.alloc (.cells #[.int .u8 (c.toNat : Int)] 5)) :=
  run_convert_bytes_back _ 50 9 5 ⟨w.heap.size, 0, none⟩ 1 [c] Tryd.underlying50 Tryd.underlying5 Tryd.underlying9 (fun j hj => by
    obtain rfl : j = 0 := by simpa using hj
    exact World.cell?_alloc_new _ _ _ _)
theorem toNat_ch {a d : Nat} (h : a + d < 256) : ((UInt8.ofNat (a + d)).toNat : Int) = (a : Int) + (d : Int) := by
  rw [UInt8.toNat_ofNat_of_lt' (by simpa using h)]; omega
theorem conv2 (w : World) (a d : Nat) (h : a + d < 256) : (convert 50 9 (.slice (some ⟨w.heap.size, 0, none⟩) 1 1)).run Tryd.prog (w.alloc (.cells #[.int .u8 ((a : Int) + (d : Int))] 5)) = .ok (.string ⟨#[UInt8.ofNat (a + d)]⟩) (w.alloc (.cells #[.int .u8 ((a : Int) + (d : Int))] 5)) := by
  have := conv1 w (UInt8.ofNat (a + d))
  rwa [toNat_ch h] at this
theorem conv3 (w : World) (a : Nat) (b : Int) (x : Int) (d : Nat) (hb : b = (a : Int)) (e : x = (d : Int)) (h : a + d < 256) : (convert 50 9 (.slice (some ⟨w.heap.size, 0, none⟩) 1 1)).run Tryd.prog (w.alloc (.cells #[.int .u8 (b + x)] 5)) = .ok (.string ⟨#[UInt8.ofNat (a + d)]⟩) (w.alloc (.cells #[.int .u8 (b + x)] 5)) := by
  rw [hb, e]; exact conv2 w a d h
set_option maxRecDepth 20000 in
set_option maxHeartbeats 4000000 in
theorem l17Dec (w : World) (n : Nat) (hn : n ≤ 255) : Calls Tryd.prog 20 #[.int .i64 n] w fun e w' => e = .returned (.string ⟨(dg n).toArray⟩) ∧ New w w' := by
  go_enter Tryd.func20, Tryd.ntmps20
  go_upto_region 6 with fail
  go_loopw [0, 3] (fun v s wr => ∃ (m : Nat) (t : ByteArray), m ≤ n ∧ v = .int .i64 m ∧ s = .string t ∧ New w wr ∧ Hid (dg n = dg m ++ t.data.toList)) (fun v _ _ => (intOf v).toNat)
  case atStart => exact ⟨n, ⟨#[]⟩, Nat.le_refl _, rfl, rfl, Kp.refl _ _, Lib.hid (by simp)⟩
  case round =>
    obtain ⟨m, t, hm, rfl, rfl, N, hT⟩ := hrel
    have hts : t.size ≤ 3 := by
      have h1 := congrArg List.length hT.out
      have h2 := size_toList t
      have h3 := dg_len (n := n) (by omega)
      rw [List.length_append] at h1
      omega
    have hadd : ∀ (c : UInt8) (wx : World), (Op.stringOp .add ⟨#[c]⟩ t).run Tryd.prog wx = .ok (.string (⟨#[c]⟩ ++ t)) wx := fun c wx => run_string_add_sum wx _ _ (by have h3 : (⟨#[c]⟩ : ByteArray).size = 1 := rfl; omega)
    have hadd2 : ∀ (c : UInt8) (wx : World), (binOp .add 9 (.string ⟨#[c]⟩) (.string t)).run Tryd.prog wx = .ok (.string (⟨#[c]⟩ ++ t)) wx := fun c wx => hadd c wx
    by_cases hlt : 9 < m
    · have hI : (9 : Int) < (m : Int) := by omega
      have hc := conv3 wr 48 48 ((m : Int) % 10) (m % 10) rfl (by omega) (by omega)
      have hT2 := Lib.hid (show dg n = dg (m / 10) ++ (⟨#[UInt8.ofNat (48 + m % 10)]⟩ ++ t : ByteArray).data.toList by rw [hT.out, dg_step (n := m) (by omega), app_toList]; simp)
      have kA : New wr (wr.alloc (.cells #[.int .u8 (48 + (m : Int) % 10)] 5)) := (Kp.refl _ _).alloc _
      have N2 := Lib.hid (N.trans kA)
      have hd : (m : Int).tdiv 10 = ((m / 10 : Nat) : Int) := by rw [Int.tdiv_eq_ediv_of_nonneg (by omega)]; omega
      have a1 := hadd (UInt8.ofNat (48 + m % 10))
      have a2 := hadd2 (UInt8.ofNat (48 + m % 10))
      generalize UInt8.ofNat (48 + m % 10) = c at *
      clear hadd hadd2 hT kA N hts
      go_wp2
      go_roundw
      case rel => exact ⟨m / 10, _, by omega, by go_num, rfl, N2.out, hT2⟩
      case measure => simp [intOf]; omega
    · have hI : ¬ (9 : Int) < (m : Int) := by omega
      have hc := conv3 wr 48 48 (m : Int) m rfl rfl (by omega)
      have hT2 := Lib.hid (show (⟨#[UInt8.ofNat (48 + m)]⟩ ++ t : ByteArray) = ⟨(dg n).toArray⟩ from ba_ext (by rw [hT.out, dg_small (n := m) (by omega), app_toList]))
      have kA : New wr (wr.alloc (.cells #[.int .u8 (48 + (m : Int))] 5)) := (Kp.refl _ _).alloc _
      have N2 := Lib.hid (N.trans kA)
      have a1 := hadd (UInt8.ofNat (48 + m))
      have a2 := hadd2 (UInt8.ofNat (48 + m))
      generalize UInt8.ofNat (48 + m) = c at *
      clear hadd hadd2 hT kA N hts
      go_wp2
      go_ret
      exact ⟨by rw [← hT2.out]; rfl, N2.out⟩
set_option maxRecDepth 20000 in
theorem l2Var (w : World) (v : Nat) (h : v < 12) : Calls Tryd.prog 50 #[.int .i64 v] w fun e w' => e = .returned (.string ⟨#[UInt8.ofNat (97 + v)]⟩) ∧ New w w' := by
  have hv : v = 0 ∨ v = 1 ∨ v = 2 ∨ v = 3 ∨ v = 4 ∨ v = 5 ∨ v = 6 ∨ v = 7 ∨ v = 8 ∨ v = 9 ∨ v = 10 ∨ v = 11 := by omega
  rcases hv with rfl | rfl | rfl | rfl | rfl | rfl | rfl | rfl | rfl | rfl | rfl | rfl
  all_goals
    go_enter Tryd.func50, Tryd.ntmps50
    go_wp2
    go_ret
    exact ⟨rfl, Kp.refl _ _⟩
set_option maxRecDepth 20000 in
theorem varText (w : World) (v : Nat) (h : v < 12) : Calls Tryd.prog 54 #[.int .i64 v] w fun e w' => e = .returned (.string ⟨#[UInt8.ofNat (97 + v)]⟩) ∧ New w w' := by
  have hc := conv3 w 97 97 (v : Int) v rfl rfl (by omega)
  have kA : New w (w.alloc (.cells #[.int .u8 (97 + (v : Int))] 5)) := (Kp.refl _ _).alloc _
  generalize UInt8.ofNat (97 + v) = c at *
  go_enter Tryd.func54, Tryd.ntmps54
  go_wp2
  go_ret
  exact ⟨rfl, kA⟩
set_option maxRecDepth 20000 in
theorem arrayText (w : World) (v : Nat) (h : v < 12) : Calls Tryd.prog 55 #[.int .i64 v] w fun e w' => e = .returned (.string ⟨#[UInt8.ofNat (80 + v)]⟩) ∧ New w w' := by
  have hc := conv3 w 80 80 (v : Int) v rfl rfl (by omega)
  have kA : New w (w.alloc (.cells #[.int .u8 (80 + (v : Int))] 5)) := (Kp.refl _ _).alloc _
  generalize UInt8.ofNat (80 + v) = c at *
  go_enter Tryd.func55, Tryd.ntmps55
  go_wp2
  go_ret
  exact ⟨rfl, kA⟩
/-- the table of powers of ten lies as the program lays it -/
abbrev Tab (w : World) : Prop := Lib.TabIs Tryd.prog w "internal/strconv.uint64pow10" .u64 Lib.pow10Tab
theorem Tab.new {w w' : World} (h : Tab w) (k : New w w') : Tab w' := by
  obtain ⟨g, hg⟩ := Option.isSome_iff_exists.1 (show (Tryd.prog.globalNamed "internal/strconv.uint64pow10").isSome = true by kernel_rfl)
  exact Joins.tab_stays hg h k.toBelow (Nat.le_refl _)
theorem grow_new (w : World) (k : Nat) (os : Array Obj) : New w (Sort.grow (w.drewN k) os) := by
  have h := drewN_kp (fun _ => False) k (Kp.refl _ w)
  refine ⟨h.os, h.tape, h.output, ?_, fun i hi _ => ?_⟩
  · have := h.size; simp [Sort.grow]
  · have h1 := h.block i hi (fun f => f)
    have h2 := h.size
    rw [← h1]
    show (((w.drewN k).heap ++ os)[i]?) = _
    rw [Array.getElem?_append_left (by omega)]
theorem itoa (w : World) (n : Int) (h0 : 0 ≤ n) (h1 : n ≤ 255) (h : Tab w) : Calls Tryd.prog 23 #[.int .i64 n] w fun e w' => e = .returned (.string ⟨(dg n.toNat).toArray⟩) ∧ New w w' := by
  refine (Tryd.strconv_Itoa n (by omega) (by omega) w h).mono ?_
  rintro e w' ⟨rfl, k, os, rfl⟩
  exact ⟨by rw [itoa_dg h0], grow_new w k os⟩
/-- strings in a row -/
def encS (x : ByteArray) : Nat → Value := fun _ => .string x
theorem join (w : World) (base : Nat) (v : Value) (xs : List ByteArray) (h : OwnF 1 encS w base 9 v xs) (hN : xs.length ≤ 2097152) (hlen : (Lib.join (xs.map (·.data.toList)) [32]).length ≤ 140737488355328) :
    Calls Tryd.prog 24 #[v, .string ⟨#[32]⟩] w fun e w' => e = .returned (.string ⟨(Lib.join (xs.map (·.data.toList)) [32]).toArray⟩) ∧ New w w' := by
  rcases h.form with ⟨rfl, rfl⟩ | ⟨b, cap, cs, rfl, hb, hl, hm, hh, hs, hc⟩
  · exact (Tryd.strings_Join_none none 0 ⟨#[32]⟩ w).mono fun e w' ⟨he, hw⟩ => ⟨he, hw ▸ Kp.refl _ _⟩
  · refine (Tryd.strings_Join b 0 cap xs ⟨#[32]⟩ w (fun j x hx => ?_) (heap_lt hh) (by omega) hl hlen).mono fun e w' ⟨he, hw⟩ => ⟨he, Kp.ofBelow hw⟩
    obtain ⟨hj, rfl⟩ := List.getElem?_eq_some_iff.1 hx
    have := hc j hj 0 (by omega)
    rw [Nat.zero_add, cell_of_heap hh]
    simpa [encS] using this
end Go.Proofs.YtckikiaockkmbaaDoor.DecT
