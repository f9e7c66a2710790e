/- Draws of statements and blocks down to any depth. Conditions: fewer than 2^40 picks so far. -/
import Derived.Test.YtckikiaockkmbaaDoorXDrawS
namespace Go.Proofs.YtckikiaockkmbaaDoor.DrawP
open Go.RowKit Kit Draw DrawX DrawB DrawS
set_option linter.unusedVariables false
def sp : Nat → Nat | 0 => 1200 | d + 1 => 8 * (sp d + 100) + 1200
def ss : Nat → Nat | 0 => 260 | d + 1 => 8 * ss d + 260
theorem GotS.more {w w' : World} {br p c n c' : Nat} {e : Ending} (h : GotS w br p c n e w') (hc : c ≤ c') : GotS w br p c' n e w' := by
  obtain ⟨x, s, q, h1, h2, h3, h4, h5⟩ := h
  exact ⟨x, s, q, h1, h2, h3, by omega, h5⟩
theorem stmt (a1 a2 a3 : Option Addr) (nv d1 na d2 nb d3 : Nat) (hnv : nv ≤ 1000000) (hna : na ≤ 1000000) : ∀ (d : Nat) (z : Int), z = d → d ≤ 1000 → ∀ (w : World) (br p : Nat), Rd w br p → p + (sp d + 100) < 1099511627776 →
    Calls Tryd.prog 88 #[.pointer (some ⟨br, 0, none⟩), .agg #[.slice a1 nv d1, .slice a2 na d2, .slice a3 nb d3], .int .i64 z] w (GotS w br p (sp d + 100) (ss d)) := by
  intro d
  induction d with
  | zero =>
    intro z hz hd w br p h hp
    refine (stmt_of a1 a2 a3 nv d1 na d2 nb d3 hnv hna z 0 0 (by omega) (fun h1 => by omega) w br p h (by simp only [sp] at hp; omega)).mono fun e w' h => ?_
    exact GotS.more h (by simp [sp])
  | succ d ih =>
    intro z hz hd w br p h hp
    have hs : sp (d + 1) = 8 * (sp d + 100) + 1200 := rfl
    refine (stmt_of a1 a2 a3 nv d1 na d2 nb d3 hnv hna z (sp d + 100) (ss d) (by omega) (fun h1 w br p n hn hr hp => ?_) w br p h (by omega)).mono fun e w' h => ?_
    · exact block_of a1 a2 a3 nv d1 na d2 nb d3 (z - 1) (sp d + 100) (ss d) (fun w br p hr hp => ih (z - 1) (by omega) (by omega) w br p hr hp) w br p n hr hn hp
    · exact GotS.more h (by omega)
theorem block (a1 a2 a3 : Option Addr) (nv d1 na d2 nb d3 : Nat) (hnv : nv ≤ 1000000) (hna : na ≤ 1000000) (d : Nat) (z : Int) (hz : z = d) (hd : d ≤ 1000) (w : World) (br p n : Nat) (hr : Rd w br p) (hn : n ≤ 4) (hp : p + 4 * (sp d + 100) < 1099511627776) :
    Calls Tryd.prog 68 #[.pointer (some ⟨br, 0, none⟩), .agg #[.slice a1 nv d1, .slice a2 na d2, .slice a3 nb d3], .int .i64 z, .int .i64 n] w (GotB w br p (4 * (sp d + 100)) (4 * ss d)) :=
  block_of a1 a2 a3 nv d1 na d2 nb d3 z (sp d + 100) (ss d) (stmt a1 a2 a3 nv d1 na d2 nb d3 hnv hna d z hz hd) w br p n hr hn hp
end Go.Proofs.YtckikiaockkmbaaDoor.DrawP
