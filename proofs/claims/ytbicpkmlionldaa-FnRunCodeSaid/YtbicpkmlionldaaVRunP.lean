/- Valid states of valid code in plain words; a step keeps them valid; runs of so many steps. No program in sight; no conditions. -/
import Derived.Test.YtbicpkmlionldaaVP7
import Derived.Test.YtbicpkmlionldaaVMachV
namespace Go.Proofs.Ytbicpkmlionldaa.RunP
open Go.RowKit Kit Step StepK Val
set_option linter.unusedVariables false
theorem okV_iff {z : Int} : okV z = true ↔ 0 ≤ z ∧ z ≤ 255 := by simp [okV, Lab.inside]
theorem okVs_get {l : List Int} (h : okVs l = true) (i : Nat) (hi : i < l.length) : 0 ≤ l[i] ∧ l[i] ≤ 255 := okV_iff.1 (List.all_eq_true.1 h _ (List.getElem_mem hi))
theorem okVs_of {l : List Int} (h : ∀ i (hi : i < l.length), 0 ≤ l[i] ∧ l[i] ≤ 255) : okVs l = true := List.all_eq_true.2 fun z hz => by
  obtain ⟨i, hi, rfl⟩ := List.getElem_of_mem hz
  exact okV_iff.2 (h i hi)
/-- code that may run -/
structure Okc (nv na : Nat) (x : List Ins) : Prop where
  len : x.length ≤ 400
  pos : 0 < x.length
  view : ∀ i (h : i < x.length), View nv na x.length x[i]
  last : ∀ (h : x.length - 1 < x.length), x[x.length - 1].op = 13 ∨ x[x.length - 1].op = 8
theorem okc {xa xb : List Int} {x : List Ins} (h : codeB xa xb x = true) : Okc xa.length xb.length x := by
  simp only [codeB, Bool.and_eq_true, Bool.or_eq_true, decide_eq_true_eq, beq_iff_eq, List.all_eq_true] at h
  obtain ⟨⟨⟨⟨_, h1⟩, h2⟩, h3⟩, h4⟩ := h
  exact ⟨h2, h1, fun i hi => view (h3 _ (List.getElem_mem hi)), fun h => by rw [← lastOp_get h]; exact h4⟩
theorem decl_bd {xa xb : List Int} {x : List Ins} (h : codeB xa xb x = true) : xa.length ≤ 12 ∧ xb.length ≤ 2 := by
  simp only [codeB, declB, Bool.and_eq_true, decide_eq_true_eq] at h
  exact ⟨h.1.1.1.1.1.1.1.2, h.1.1.1.1.1.1.2⟩
theorem okm_fit {nv na nl : Nat} {pc : Int} {yr ya : List Int} {yb : List (List Int)} (h1 : yr.length = 14) (h2 : okVs yr = true) (h : fitB nv na ya yb = true) : Okm nv na nl ⟨pc, yr, ya, yb⟩ := by
  simp only [fitB, rowB, Bool.and_eq_true, decide_eq_true_eq, List.all_eq_true] at h
  obtain ⟨⟨⟨a, b⟩, c⟩, d⟩ := h
  exact ⟨h1, fun i hi => okVs_get h2 i hi, a, fun i hi => okVs_get c i hi, b, fun i hi => (d _ (List.getElem_mem hi)).1, fun i hi j hj => okVs_get (d _ (List.getElem_mem hi)).2 j hj⟩
/-- what a valid state is -/
theorem mach_ok {xa xb : List Int} {x : List Ins} {pc : Int} {yr ya : List Int} {yb : List (List Int)} (h : machB xa xb x pc yr ya yb = true) :
    ∃ p : Nat, pc = p ∧ p < x.length ∧ Okc ya.length yb.length x ∧ Okm ya.length yb.length x.length ⟨pc, yr, ya, yb⟩ ∧ ya.length ≤ 12 ∧ yb.length ≤ 2 := by
  simp only [machB, Bool.and_eq_true, decide_eq_true_eq] at h
  obtain ⟨⟨⟨⟨⟨h1, h2⟩, h3⟩, h4⟩, h5⟩, h6⟩ := h
  have hm := okm_fit (nl := x.length) (pc := pc) h4 h5 h6
  have hd := decl_bd h1
  have ea := hm.vl
  have eb := hm.al
  dsimp only at ea eb
  rw [ea, eb]
  exact ⟨pc.toNat, by omega, by omega, okc h1, hm, hd.1, hd.2⟩
theorem Okm.pc {nv na nl : Nat} {s : Ms} (h : Okm nv na nl s) (p : Int) : Okm nv na nl { s with pc := p } := ⟨h.rl, h.rv, h.vl, h.vv, h.al, h.ar, h.av⟩
theorem set_in {l : List Int} {a : Nat} {z : Int} (h : ∀ i (hi : i < l.length), 0 ≤ l[i] ∧ l[i] ≤ 255) (hz : 0 ≤ z ∧ z ≤ 255) : ∀ i (hi : i < (l.set a z).length), 0 ≤ (l.set a z)[i] ∧ (l.set a z)[i] ≤ 255 := fun i hi => by
  rw [List.getElem_set]
  split
  · exact hz
  · exact h i (by simpa using hi)
theorem Okm.setr {nv na nl : Nat} {s : Ms} (h : Okm nv na nl s) (p : Int) (a : Nat) {z : Int} (hz : 0 ≤ z ∧ z ≤ 255) : Okm nv na nl ⟨p, s.r.set a z, s.v, s.a⟩ := ⟨by simpa using h.rl, set_in h.rv hz, h.vl, h.vv, h.al, h.ar, h.av⟩
theorem Okm.setv {nv na nl : Nat} {s : Ms} (h : Okm nv na nl s) (p : Int) (a : Nat) {z : Int} (hz : 0 ≤ z ∧ z ≤ 255) : Okm nv na nl ⟨p, s.r, s.v.set a z, s.a⟩ := ⟨h.rl, h.rv, by simpa using h.vl, set_in h.vv hz, h.al, h.ar, h.av⟩
theorem Okm.seta {nv na nl : Nat} {s : Ms} (h : Okm nv na nl s) (p : Int) (a b : Nat) (ha : a < s.a.length) {z : Int} (hz : 0 ≤ z ∧ z ≤ 255) : Okm nv na nl ⟨p, s.r, s.v, s.a.set a (s.a[a].set b z)⟩ :=
  ⟨h.rl, h.rv, h.vl, h.vv, by simpa using h.al, fun i hi => by
    dsimp only at hi ⊢
    rw [List.getElem_set]
    split
    · simpa using h.ar a ha
    · exact h.ar i (by simpa using hi), fun i hi j hj => by
    dsimp only at hi hj ⊢
    simp only [List.getElem_set] at hj ⊢
    by_cases e : a = i
    · simp only [e, if_true] at hj ⊢
      subst e
      exact set_in (h.av a ha) hz j (by simpa using hj)
    · simp only [e, if_false] at hj ⊢
      exact h.av i (by simpa using hi) j hj⟩
theorem reg_in {nv na nl : Nat} {s : Ms} (h : Okm nv na nl s) {a : Nat} (ha : a < 14) : 0 ≤ at0 s.r a ∧ at0 s.r a ≤ 255 := by
  have := h.rl
  rw [at0_nat (by omega)]; exact h.rv a (by omega)
theorem eff_okm {nv na nl : Nat} {y : Ins} (hv : View nv na nl y) {s : Ms} (h : Okm nv na nl s) : Okm nv na nl (eff y s).1 := by
  have hr := fun {a : Nat} (ha : a < 14) => reg_in h ha
  have hrl := h.rl
  cases hv with
  | const a b ha hb hb2 => simpa [eff, put0_nat] using Okm.setr h _ a ⟨hb, hb2⟩
  | get a b ha hb =>
    have hb' : b < s.v.length := by rw [h.vl]; exact hb
    simpa [eff, put0_nat, at0_nat hb'] using Okm.setr h _ a (h.vv b hb')
  | put a b ha hb => simpa [eff, put0_nat] using Okm.setv h _ a (hr hb)
  | load a b c ha hb hc =>
    have hb' : b < s.a.length := by rw [h.al]; exact hb
    have h4 := h.ar b hb'
    obtain ⟨n, hn⟩ : ∃ n : Nat, at0 s.r c = n := ⟨(at0 s.r c).toNat, by have := (hr hc).1; omega⟩
    have : n % 4 < s.a[b].length := by omega
    simpa [eff, put0_nat, row0_nat hb', hn, at0_mod this] using Okm.setr h _ a (h.av b hb' _ this)
  | store a b c ha hb hc =>
    have ha' : a < s.a.length := by rw [h.al]; exact ha
    obtain ⟨n, hn⟩ : ∃ n : Nat, at0 s.r b = n := ⟨(at0 s.r b).toNat, by have := (hr hb).1; omega⟩
    simpa [eff, row0_nat ha', hn, put0_mod] using Okm.seta h _ a (n % 4) ha' (hr hc)
  | bin a b c d ha hb hb2 hc hd => simpa [eff, put0_nat] using Okm.setr h _ a (OpV.bin_range hb hb2 (hr hc).1 (hr hc).2 (hr hd).1 (hr hd).2)
  | sel a b c d ha hb hc hd =>
    have hz : 0 ≤ (if at0 s.r b = 0 then at0 s.r d else at0 s.r c) ∧ (if at0 s.r b = 0 then at0 s.r d else at0 s.r c) ≤ 255 := by
      split
      · exact hr hd
      · exact hr hc
    simpa [eff, put0_nat] using Okm.setr h _ a hz
  | jump a ha => simpa [eff] using Okm.pc h _
  | zero a b ha hb => simpa [eff] using Okm.pc h _
  | loop a b ha hb => simpa [eff, put0_nat] using Okm.setr h _ a (z := (at0 s.r a + 255) % 256) ⟨by omega, by omega⟩
  | rel a ha => simpa [eff] using Okm.pc h _
  | fence => simpa [eff] using Okm.pc h _
  | halt => simpa [eff] using h
theorem eff_pc {nv na : Nat} {x : List Ins} (hc : Okc nv na x) {s : Ms} {p : Nat} (hp : p < x.length) (hs : s.pc = p) : ∃ q : Nat, (eff x[p] s).1.pc = q ∧ q < x.length := by
  have hl := hc.last (by omega)
  have hv := hc.view p hp
  have nx : ¬ (x[p].op = 13 ∨ x[p].op = 8) → p + 1 < x.length := fun h => by
    by_cases e : p = x.length - 1
    · subst e; exact absurd hl h
    · omega
  generalize hy : x[p] = y at *
  cases hv with
  | jump a ha => exact ⟨a, by simp [eff], ha⟩
  | zero a b ha hb =>
    by_cases e : at0 s.r a = 0
    · exact ⟨b, by simp [eff, e], hb⟩
    · exact ⟨p + 1, by simp [eff, e, hs], nx (by simp)⟩
  | loop a b ha hb =>
    by_cases e : (at0 s.r a + 255) % 256 = 0
    · exact ⟨p + 1, by simp [eff, e, hs], nx (by simp)⟩
    · exact ⟨b, by simp [eff, e], hb⟩
  | halt => exact ⟨p, by simp [eff, hs], hp⟩
  | _ => exact ⟨p + 1, by simp [eff, hs], nx (by simp)⟩
/-- the instruction at p -/
def ins (x : List Ins) (p : Int) : Ins := x.getD p.toNat ⟨0, 0, 0, 0, 0⟩
theorem ins_nat {x : List Ins} {p : Nat} (h : p < x.length) : ins x p = x[p] := by simp [ins, h]
/-- at most n steps, up to a halt -/
def run (x : List Ins) : Nat → Ms → List Ev → Option (Ms × List Ev)
  | 0, _, _ => none
  | n + 1, s, t => if (ins x s.pc).op = 13 then some ((eff (ins x s.pc) s).1, t ++ (5, s.pc) :: (eff (ins x s.pc) s).2) else run x n (eff (ins x s.pc) s).1 (t ++ (5, s.pc) :: (eff (ins x s.pc) s).2)
theorem run_stop {x : List Ins} {n p : Nat} {s : Ms} {t : List Ev} (hp : p < x.length) (hs : s.pc = p) (h : x[p].op = 13) : run x (n + 1) s t = some ((eff x[p] s).1, t ++ (5, (p : Int)) :: (eff x[p] s).2) := by
  have e : ins x s.pc = x[p] := by rw [hs]; exact ins_nat hp
  rw [run, e, if_pos h, hs]
theorem run_on {x : List Ins} {n p : Nat} {s : Ms} {t : List Ev} (hp : p < x.length) (hs : s.pc = p) (h : x[p].op ≠ 13) : run x (n + 1) s t = run x n (eff x[p] s).1 (t ++ (5, (p : Int)) :: (eff x[p] s).2) := by
  have e : ins x s.pc = x[p] := by rw [hs]; exact ins_nat hp
  rw [run, e, if_neg h, hs]
theorem msz_rows : ∀ (l : List (List Int)), (∀ i (h : i < l.length), l[i].length = 4) → msz l = 5 * l.length
  | [], _ => rfl
  | x :: l, h => by
    have h0 : x.length = 4 := h 0 (by simp)
    have h1 := msz_rows l (fun i hi => h (i + 1) (by simpa using hi))
    simp only [msz, List.length_cons]
    omega
theorem msz_small {l : List (List Int)} (h : ∀ i (h : i < l.length), l[i].length = 4) (h2 : l.length ≤ 2) : msz l ≤ 12 := by rw [msz_rows l h]; omega
/-- what is handed back where t says no -/
def out (t : Bool) (s : Ms) : Ms := if t then s else ⟨0, [], [], []⟩
/-- a run's answer in the words of the laws -/
def resT (r : Option (Ms × List Ev)) : Bool := r.isSome
def resZ (r : Option (Ms × List Ev)) : Ms := match r with | some (s, _) => s | none => ⟨0, [], [], []⟩
def resL (r : Option (Ms × List Ev)) : List Ev := match r with | some (_, l) => l | none => []
theorem run_ok {nv na : Nat} {x : List Ins} (hc : Okc nv na x) : ∀ (n : Nat) (s : Ms) (t : List Ev) (p : Nat) (s' : Ms) (t' : List Ev), Okm nv na x.length s → s.pc = p → p < x.length → run x n s t = some (s', t') → Okm nv na x.length s' ∧ t'.length ≤ t.length + 2 * n
  | 0, s, t, p, s', t', _, _, _, h => by simp [run] at h
  | n + 1, s, t, p, s', t', hk, hs, hp, h => by
    have hl := (eff_len (hc.view p hp) s).2
    have hm := eff_okm (hc.view p hp) hk
    by_cases e : x[p].op = 13
    · rw [run_stop hp hs e] at h
      simp only [Option.some.injEq, Prod.mk.injEq] at h
      obtain ⟨rfl, rfl⟩ := h
      refine ⟨hm, ?_⟩
      simp only [List.length_append, List.length_cons]
      omega
    · rw [run_on hp hs e] at h
      obtain ⟨q, hq, hql⟩ := eff_pc hc hp hs
      obtain ⟨h1, h2⟩ := run_ok hc n _ _ q s' t' hm hq hql h
      refine ⟨h1, ?_⟩
      simp only [List.length_append, List.length_cons] at h2
      omega
end Go.Proofs.Ytbicpkmlionldaa.RunP
