/- eqExpr, eqExprS of laws: structural equality. -/
import Derived.Test.YtckikiaockkmbaaDoorYP2
import Derived.Test.YtckikiaockkmbaaDoorChecked
import Derived.WalkKit
import Derived.ProofKit
import Derived.Deep.QuietTactic
import Derived.BigQuiet
import Derived.StillTailTactics
import Derived.Deep.LoopGhost
namespace Go.Proofs.YtckikiaockkmbaaDoor.EqE
open Go.RowKit Kit
set_option linter.unusedVariables false

/-- what eqExprS is to do at lists of fewer than n nodes -/
def Does (n : Nat) : Prop := ∀ (w : World) (lo hi lo' hi' : Nat) (s t : Value) (l m : List Ex), Ex.sizes l < n → KidsR w lo hi s l → KidsR w lo' hi' t m → hi ≤ w.heap.size → hi' ≤ w.heap.size →
  Calls Tryd.prog 38 #[s, t] w fun e w' => e = .returned (.bool (Ex.sames l m)) ∧ New w w'

set_option maxHeartbeats 400000 in
theorem eqExpr_step (n : Nat) (H : Does n) (w : World) (lo hi lo' hi' : Nat) (k v k' v' : Int) (s t : Value) (l m : List Ex) (hl : Ex.sizes l < n) (hs : KidsR w lo hi s l) (ht : KidsR w lo' hi' t m) (h1 : hi ≤ w.heap.size) (h2 : hi' ≤ w.heap.size) :
    Calls Tryd.prog 18 #[.agg #[.int .i64 k, .int .i64 v, s], .agg #[.int .i64 k', .int .i64 v', t]] w fun e w' => e = .returned (.bool (k == k' && v == v' && Ex.sames l m)) ∧ New w w' := by
  by_cases hk : k = k'
  · by_cases hv : v = v'
    · subst hk; subst hv
      have HH := Lib.hid H; clear H
      go_enter Tryd.func18, Tryd.ntmps18
      go_wp2_with fail
      refine (HH.out _ lo hi lo' hi' s t l m hl (hs.new h1 (((Kp.refl _ _).alloc _).alloc _)) (ht.new h2 (((Kp.refl _ _).alloc _).alloc _)) (by simp; omega) (by simp; omega)).mono ?_
      rintro e w1 ⟨rfl, hn⟩
      have hN : New w w1 := (((Kp.refl _ _).alloc _).alloc _).trans hn
      cases hb : Ex.sames l m
      all_goals
        go_wp2
        go_ret
        exact ⟨retB (by simp [hb]), hN⟩
    · subst hk
      have hv2 : (v == v') = false := by simp [hv]
      have hv3 : (v != v') = true := by simp [hv]
      go_enter Tryd.func18, Tryd.ntmps18
      go_wp2_with fail
      go_ret
      exact ⟨retB (by simp [hv]), ((Kp.refl _ _).alloc _).alloc _⟩
  · have hk2 : (k == k') = false := by simp [hk]
    go_enter Tryd.func18, Tryd.ntmps18
    go_wp2_with fail
    go_ret
    exact ⟨retB (by simp [hk]), ((Kp.refl _ _).alloc _).alloc _⟩

set_option maxHeartbeats 1000000 in
theorem eqExprS_step (n : Nat) (H : Does n) (w : World) (lo hi lo' hi' : Nat) (s t : Value) (l m : List Ex) (hl : Ex.sizes l ≤ n) (hs : KidsR w lo hi s l) (ht : KidsR w lo' hi' t m) (h1 : hi ≤ w.heap.size) (h2 : hi' ≤ w.heap.size) :
    Calls Tryd.prog 38 #[s, t] w fun e w' => e = .returned (.bool (Ex.sames l m)) ∧ New w w' := by
  obtain ⟨a, c, rfl, hl1⟩ := hs.len
  obtain ⟨a', c', rfl, hl2⟩ := ht.len
  have HH := Lib.hid H; clear H
  by_cases hlen : l.length = m.length
  · have hL := Lib.hid hlen
    have hq : ((l.length : Int) == (m.length : Int)) = true := by simp [hlen]
    have hle : m.length ≤ l.length := by omega
    have hge : l.length ≤ m.length := by omega
    have hq3 : ((l.length : Int) != (m.length : Int)) = false := by simp [hlen]
    clear hlen
    go_enter Tryd.func38, Tryd.ntmps38
    go_wp2_with fail
    go_loopw [5] (fun i wr => ∃ j : Nat, j ≤ l.length ∧ i = .int .i64 j ∧ New w wr ∧ Hid (Ex.sames l m = Ex.sames (l.drop j) (m.drop j))) (fun i _ => l.length - (intOf i).toNat)
    case atStart => exact ⟨0, Nat.zero_le _, rfl, Kp.refl _ _, Lib.hid rfl⟩
    case round =>
      obtain ⟨j, hj, rfl, hN, hD⟩ := hrel
      by_cases hlt : j < l.length
      · obtain ⟨b, o, s, rfl, hb1, hb2, c0, c1, c2, hs1⟩ := hs.at j hlt
        obtain ⟨b', o', s', rfl, hb1', hb2', c0', c1', c2', hs1'⟩ := ht.at j (by omega)
        have g0 := (hN.cell (b := b) (by omega) (fun f => f) (o + j * 3)).trans c0
        have g1 := (hN.cell (b := b) (by omega) (fun f => f) (o + j * 3 + 1)).trans c1
        have g2 := (hN.cell (b := b) (by omega) (fun f => f) (o + j * 3 + 2)).trans c2
        have g0' := (hN.cell (b := b') (by omega) (fun f => f) (o' + j * 3)).trans c0'
        have g1' := (hN.cell (b := b') (by omega) (fun f => f) (o' + j * 3 + 1)).trans c1'
        have g2' := (hN.cell (b := b') (by omega) (fun f => f) (o' + j * 3 + 2)).trans c2'
        clear c0 c1 c2 c0' c1' c2'
        have hlt2 : j < m.length := by omega
        have k1 : KidsR wr.drew lo hi s l[j].kids := hs1.new h1 hN.drew
        have k2 : KidsR wr.drew lo' hi' s' m[j].kids := hs1'.new h2 hN.drew
        have z1 : hi ≤ wr.drew.heap.size := by have := hN.size; simp; omega
        have z2 : hi' ≤ wr.drew.heap.size := by have := hN.size; simp; omega
        have hsz : Ex.sizes l[j].kids < n := by have := Ex.kids_get l j hlt; omega
        have hD2 := Lib.hid (hD.out.trans (Ex.sames_drop l m j hlt hlt2))
        have hE := Lib.hid (Ex.same_eq l[j] m[j])
        clear hD hs ht hs1 hs1'
        generalize l[j] = e at *
        generalize m[j] = f at *
        go_wp2_with fail
        set_option maxRecDepth 100000 in go_still_tail 8, (by kernel_rfl)
        change wpList _ _ _ _ _ wr.drew
        go_wp2_with fail
        refine (eqExpr_step n HH.out _ lo hi lo' hi' _ _ _ _ _ _ _ _ hsz k1 k2 z1 z2).mono ?_
        rintro r w1 ⟨rfl, hn⟩
        have hN1 : New w w1 := hN.drew.trans hn
        cases hb : (e.kind == f.kind && e.val == f.val && Ex.sames e.kids f.kids)
        · go_wp2
          go_ret
          exact ⟨retB (by rw [hD2.out, hE.out, hb]; simp), hN1⟩
        · go_wp2
          go_roundw
          case rel => exact ⟨j + 1, by omega, by go_num, hN1, Lib.hid (by rw [hD2.out, hE.out, hb]; simp)⟩
          case measure => simp [intOf]; omega
      · have hjj : j = l.length := by omega
        have hfin := Lib.hid (show Ex.sames l m = true by rw [hD.out, List.drop_of_length_le (by omega), List.drop_of_length_le (by have := hL.out; omega)]; exact Ex.sames_nil)
        have hge2 : l.length ≤ j := by omega
        clear hjj hD
        go_wp2
        go_ret
        exact ⟨retB hfin.out.symm, hN⟩
  · have hq : ((l.length : Int) != (m.length : Int)) = true := by simp; omega
    have hfin := Lib.hid (show Ex.sames l m = false by
      cases hb : Ex.sames l m
      · rfl
      · exact absurd (Ex.sames_length _ _ hb) hlen)
    clear hlen
    go_enter Tryd.func38, Tryd.ntmps38
    go_wp2
    go_ret
    exact ⟨retB hfin.out.symm, Kp.refl _ _⟩

theorem does : ∀ n, Does n
  | 0 => fun w lo hi lo' hi' s t l m hl hs ht h1 h2 => absurd hl (Nat.not_lt_zero _)
  | n + 1 => fun w lo hi lo' hi' s t l m hl hs ht h1 h2 => eqExprS_step n (does n) w lo hi lo' hi' s t l m (Nat.le_of_lt_succ hl) hs ht h1 h2

theorem eqExprS (w : World) (lo hi lo' hi' : Nat) (s t : Value) (l m : List Ex) (hs : KidsR w lo hi s l) (ht : KidsR w lo' hi' t m) (h1 : hi ≤ w.heap.size) (h2 : hi' ≤ w.heap.size) :
    Calls Tryd.prog 38 #[s, t] w fun e w' => e = .returned (.bool (Ex.sames l m)) ∧ New w w' :=
  does _ w lo hi lo' hi' s t l m (Nat.lt_succ_self _) hs ht h1 h2

theorem eqExpr (w : World) (lo hi lo' hi' : Nat) (k v k' v' : Int) (s t : Value) (l m : List Ex) (hs : KidsR w lo hi s l) (ht : KidsR w lo' hi' t m) (h1 : hi ≤ w.heap.size) (h2 : hi' ≤ w.heap.size) :
    Calls Tryd.prog 18 #[.agg #[.int .i64 k, .int .i64 v, s], .agg #[.int .i64 k', .int .i64 v', t]] w fun e w' => e = .returned (.bool (Ex.same (.node k v l) (.node k' v' m))) ∧ New w w' :=
  eqExpr_step _ (does _) w lo hi lo' hi' k v k' v' s t l m (Nat.lt_succ_self _) hs ht h1 h2
end Go.Proofs.YtckikiaockkmbaaDoor.EqE
