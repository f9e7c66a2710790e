/- Plain facts of runs, for the law of runs. No program in sight; no conditions. -/
import Derived.Test.YtbicpkmlionldaaVLawS
import Derived.Test.YtbicpkmlionldaaVRunC
import Derived.Test.YtbicpkmlionldaaVLawA
namespace Go.Proofs.Ytbicpkmlionldaa.LawR
open Go.RowKit Kit Step StepK Val RunP RunC MarkC
set_option linter.unusedVariables false
theorem run_grow (x : List Ins) : ∀ (n : Nat) (s : Ms) (t : List Ev) (s' : Ms) (l : List Ev), run x n s t = some (s', l) → t.length < l.length
  | 0, s, t, s', l, h => by simp [run] at h
  | n + 1, s, t, s', l, h => by
    rw [run] at h
    split at h
    · cases h; simp
    · have := run_grow x n _ _ _ _ h
      simp at this; omega
theorem run_pos {x : List Ins} {n : Nat} {s z : Ms} {t l : List Ev} (h : run x n s t = some (z, l)) : ∃ k, n = k + 1 := by
  cases n with
  | zero => simp [run] at h
  | succ n => exact ⟨n, rfl⟩
theorem run_yes {xa xb : List Int} {x : List Ins} {ya : List Int} {yb : List (List Int)} {rr : Option (Ms × List Ev)} {z : Ms} {zl : List Ev} (h : runR xa xb x ya yb = rr) (ht : resT rr = true) (hz : resZ rr = z) (hl : resL rr = zl) :
    (codeB xa xb x && fitB xa.length xb.length ya yb) = true ∧ run x 20000 ⟨((0 : Nat) : Int), StartM.zeros, ya, yb⟩ [] = some (z, zl) := by
  cases rr with
  | none => simp [resT] at ht
  | some q =>
    obtain ⟨z', l'⟩ := q
    simp only [resZ, resL] at hz hl
    subst hz; subst hl
    cases hc : (codeB xa xb x && fitB xa.length xb.length ya yb)
    · rw [runR_no hc] at h; cases h
    · rw [runR_yes hc] at h; exact ⟨rfl, h⟩
theorem valid_pos {xa xb : List Int} {x : List Ins} {pc : Int} {yr ya : List Int} {yb : List (List Int)} (h : machB xa xb x pc yr ya yb = true) : 0 < x.length := by
  obtain ⟨p, _, hp, _⟩ := mach_ok h; omega
theorem valid_lens {xa xb : List Int} {x : List Ins} {pc : Int} {yr ya : List Int} {yb : List (List Int)} (h : machB xa xb x pc yr ya yb = true) : yr.length ≤ 14 ∧ ya.length ≤ 12 ∧ yb.length ≤ 2 ∧ ∀ y ∈ yb, y.length ≤ 1099511627776 := by
  obtain ⟨p, _, hp, _, hk, h1, h2⟩ := mach_ok h
  refine ⟨Nat.le_of_eq hk.rl, h1, h2, fun y hy => ?_⟩
  obtain ⟨i, hi, rfl⟩ := List.mem_iff_getElem.1 hy
  have := hk.ar i hi
  dsimp only at this
  omega
theorem run_end {x : List Ins} {p n : Nat} {yr ya : List Int} {yb : List (List Int)} {tl zl zl1 : List Ev} {z z1 : Ms} {y : Ins} {m : Nat} (hp : p < x.length) (hy : x[p] = y) (h13 : y.op = 13) (hn : m = n + 1) (hr : run x m ⟨(p : Int), yr, ya, yb⟩ tl = some (z, zl))
    (hz : out true (eff (ins x p) ⟨(p : Int), yr, ya, yb⟩).1 = z1) (hl : Rec.pk true ((5, (p : Int)) :: (eff (ins x p) ⟨(p : Int), yr, ya, yb⟩).2) = zl1) : ya = z.v ∧ yb = z.a ∧ tl ++ zl1 = zl := by
  subst hn
  subst hy
  rw [run_stop hp rfl h13] at hr
  rw [ins_nat hp] at hl
  cases hr
  refine ⟨by simp [eff, h13], by simp [eff, h13], ?_⟩
  rw [← hl]; rfl
theorem run_next {x : List Ins} {p n : Nat} {yr ya : List Int} {yb : List (List Int)} {tl zl zl1 : List Ev} {z z1 : Ms} {y : Ins} {m : Nat} (hp : p < x.length) (hy : x[p] = y) (h13 : y.op ≠ 13) (hn : m = n + 1) (hr : run x m ⟨(p : Int), yr, ya, yb⟩ tl = some (z, zl))
    (hz : out true (eff (ins x p) ⟨(p : Int), yr, ya, yb⟩).1 = z1) (hl : Rec.pk true ((5, (p : Int)) :: (eff (ins x p) ⟨(p : Int), yr, ya, yb⟩).2) = zl1) : run x n z1 (tl ++ zl1) = some (z, zl) := by
  subst hn
  subst hy
  rw [run_on hp rfl h13] at hr
  rw [ins_nat hp] at hl hz
  rw [← hl, ← hz]
  exact hr
theorem next_ok {xa xb : List Int} {x : List Ins} {p : Nat} {yr ya : List Int} {yb : List (List Int)} {zl1 : List Ev} {z1 : Ms} (h : machB xa xb x p yr ya yb = true) (hp : p < x.length) (hz : out true (eff (ins x p) ⟨(p : Int), yr, ya, yb⟩).1 = z1)
    (hl : Rec.pk true ((5, (p : Int)) :: (eff (ins x p) ⟨(p : Int), yr, ya, yb⟩).2) = zl1) : machB xa xb x z1.pc z1.r z1.v z1.a = true ∧ (∃ q : Nat, z1.pc = q ∧ q < x.length) ∧ 1 ≤ zl1.length ∧ zl1.length ≤ 2 := by
  refine ⟨LawS.mach_eff h hz, ?_, ?_⟩
  · obtain ⟨q, e1, e2, _⟩ := mach_ok (LawS.mach_eff h hz)
    exact ⟨q, e1, e2⟩
  · obtain ⟨p', e, _, hc, _⟩ := mach_ok h
    have := LawS.ev_len (hc.view p hp) ⟨(p : Int), yr, ya, yb⟩
    rw [ins_nat hp] at hl
    rw [← hl]
    show 1 ≤ ((5, (p : Int)) :: (eff x[p] ⟨(p : Int), yr, ya, yb⟩).2).length ∧ ((5, (p : Int)) :: (eff x[p] ⟨(p : Int), yr, ya, yb⟩).2).length ≤ 2
    simp only [List.length_cons]
    omega
theorem own_at (b n d : Nat) : (Value.slice (some ⟨b, 0, none⟩) n d).ownBlock = some b := by simp [Value.ownBlock]
/-- a value's own block, or one that no fact speaks of -/
theorem own_in {v : Value} {Q : Nat → Prop} {e : Nat} (h : ∀ b, v.ownBlock = some b → Q b) : ∃ eb, (∀ b, v.ownBlock = some b → b = eb) ∧ (Q eb ∨ eb = e) := by
  cases hv : v.ownBlock with
  | none => exact ⟨e, fun b hb => (by cases hb), .inr rfl⟩
  | some b => exact ⟨b, fun c hc => (by cases hc; rfl), .inl (h b hv)⟩
theorem one_kp {wb w1 w2 : World} {bM : Nat} {T : Nat → Prop} (h : One bM wb w1) (k : Kp T w1 w2) (hT : ∀ b, T b → b = bM ∨ wb.heap.size ≤ b) : One bM wb w2 :=
  ⟨k.os.trans h.os, k.tape.trans h.tape, k.output.trans h.output, Nat.le_trans h.size k.size, fun i hi hn => (k.block i (Nat.lt_of_lt_of_le hi h.size) (fun t => by have := hT i t; omega)).trans (h.block i hi hn)⟩
/-- where the law's loop stands behind k steps: the state, the events so far -/
def Inv (x : List Ins) (xa xb : List Int) (z : Ms) (zl : List Ev) (bM : Nat) (wb : World) (ev n : Value) (wr : World) : Prop := ∃ (k p m dd lo hi : Nat) (a : Option Addr) (vr va vb : Value) (yr ya : List Int) (yb : List (List Int)) (tl : List Ev), n = .int .i64 k ∧ ev = .slice a m dd ∧ tl.length = m ∧ One bM wb wr ∧
  OwnF 2 encE wr wb.heap.size 68 (.slice a m dd) tl ∧ k ≤ m ∧ k ≤ 20000 ∧ m ≤ 2 * k ∧ run x (20000 - k) ⟨(p : Int), yr, ya, yb⟩ tl = some (z, zl) ∧ p < x.length ∧ machB xa xb x p yr ya yb = true ∧
  wr.heap[bM]? = some (.cells #[.int .i64 p, vr, va, vb] 38 (0, 0)) ∧ MachO wr lo hi vr va vb yr ya yb ∧ hi ≤ wr.heap.size ∧ (bM < lo ∨ hi ≤ bM) ∧ ∀ b, (Value.slice a m dd).ownBlock = some b → (b < lo ∨ hi ≤ b) ∧ b ≠ bM
end Go.Proofs.Ytbicpkmlionldaa.LawR
