/- Evaluation of expressions by spec. Conditions: the expression is valid, the memory fits, bounds on lengths. -/
import Derived.Test.YtckikiaockkmbaaTEvI
import Derived.Test.YtckikiaockkmbaaTP7
import Derived.Test.YtckikiaockkmbaaTFlowP
import Derived.Deep.RegionHeld3
import Derived.Deep.DeepCutAuto
import Derived.RegionTactic
import Derived.Test.YtckikiaockkmbaaTP1
namespace Go.Proofs.Ytckikiaockkmbaa.EvS
open Go.RowKit Kit Val Step EvP
set_option linter.unusedVariables false
theorem results_tmp2 {P : Program} {fn : Func} {p q : Tmp} (h : fn.results = #[.tmp p, .tmp q]) (tmps : Array Value) (w : World) : (results fn tmps).run P w = .ok (.tuple #[tmps.getD p undef, tmps.getD q undef]) w := by
  simp [results, h]
/-- what an evaluation leaves -/
def Done (w : World) (base : Nat) (ev : Value) (x : Int) (l : List Ev) (e : Ending) (w' : World) : Prop := ∃ ev', e = .returned (.tuple #[.int .i64 x, ev']) ∧ Kp (fun c => ev.ownBlock = some c) w w' ∧ OwnF 2 encE w' base 32 ev' l ∧ Grew w ev ev'
theorem Done.of {w wr : World} {base : Nat} {ev ev1 u v : Value} {x y : Int} {l m : List Ev} (K : Kp (fun c => ev.ownBlock = some c) w wr) (hE : OwnF 2 encE wr base 32 ev1 m) (g : Grew w ev ev1) (hx : y = x) (hl : m = l) (hu : u = .int .i64 y) (hv : v = ev1) : Done w base ev x l (.returned (.tuple #[u, v])) wr := by
  subst hx hl hu hv; exact ⟨_, rfl, K, hE, g⟩
theorem Done.drewN {w w' : World} {base : Nat} {ev : Value} {x : Int} {l : List Ev} {e : Ending} (h : Done w base ev x l e w') (n : Nat) : Done w base ev x l e (w'.drewN n) := by
  obtain ⟨ev', h1, h3, h5, h6⟩ := h
  have kd : New w' (w'.drewN n) := drewN_kp _ n (Kp.refl _ _)
  exact ⟨ev', h1, h3.nw' kd, h5.new kd, h6⟩
/-- behind j operands -/
def EvL (w : World) (base bM bE bV : Nat) (k v : Int) (s va vb ev : Value) (ya : List Int) (yb : List (List Int)) (ks : List Ex) (l : List Ev) (j : Nat) (ev' u : Value) (wr : World) : Prop := Kp (fun c => ev.ownBlock = some c) w wr ∧ wr.heap[bM]? = some (.cells #[va, vb] 79 (0, 0)) ∧ wr.heap[bE]? = some (.cells #[.int .i64 k, .int .i64 v, s] 58 (0, 0)) ∧
  OwnF 2 encE wr base 32 ev' (l ++ evts ya yb (ks.take j)) ∧ Grew w ev ev' ∧ OwnF 1 encI wr bV 3 u (evls ya yb (ks.take j)) ∧ bV < wr.heap.size
end Go.Proofs.Ytckikiaockkmbaa.EvS
