/- What 'each' tells, in its order, in plain words: folds over statements; counting, releases, writes, the flow. No program in sight; no conditions. -/
import Derived.Test.YtckikiaockkmbaaDoorYP4
namespace Go.Proofs.YtckikiaockkmbaaDoor.Val
open Go.RowKit Kit
set_option linter.unusedVariables false
def inCtx (lb : Ex → Int) (k : Int) (v : Ex) (x : Int) : Int := if k = 3 then bits .or .i64 x (lb v) else x
mutual
/-- f on each statement, in the order of the text, with the label of its context -/
def eachS {σ : Type} (lb : Ex → Int) (f : St → Int → σ → σ) : St → Int → σ → σ
  | .node k t i v c b e, x, a => eachL lb f e (inCtx lb k v x) (eachL lb f b (inCtx lb k v x) (f (.node k t i v c b e) x a))
def eachL {σ : Type} (lb : Ex → Int) (f : St → Int → σ → σ) : List St → Int → σ → σ
  | [], _, a => a
  | s :: l, x, a => eachL lb f l x (eachS lb f s x a)
end
mutual
/-- g on each statement -/
def foldS {σ : Type} (g : St → σ → σ) : St → σ → σ
  | .node k t i v c b e, a => foldL g e (foldL g b (g (.node k t i v c b e) a))
def foldL {σ : Type} (g : St → σ → σ) : List St → σ → σ
  | [], a => a
  | s :: l, a => foldL g l (foldS g s a)
end
mutual
theorem eachS_fold {σ : Type} (lb : Ex → Int) (g : St → σ → σ) : ∀ (s : St) (x : Int) (a : σ), eachS lb (fun s _ a => g s a) s x a = foldS g s a
  | .node k t i v c b e, x, a => by rw [eachS, foldS, eachL_fold lb g b, eachL_fold lb g e]
theorem eachL_fold {σ : Type} (lb : Ex → Int) (g : St → σ → σ) : ∀ (l : List St) (x : Int) (a : σ), eachL lb (fun s _ a => g s a) l x a = foldL g l a
  | [], _, _ => rfl
  | s :: l, x, a => by rw [eachL, foldL, eachS_fold lb g s, eachL_fold lb g l]
end
/-- counting -/
def cntG (_ : St) (n : Int) : Int := IntKind.i64.wrap (n + 1)
mutual
theorem foldS_cnt : ∀ (s : St) (n : Int), 0 ≤ n → n + stN s ≤ 4611686018427387904 → foldS cntG s n = n + stN s
  | .node k t i v c b e, n, h0, h => by
    rw [stN] at h ⊢
    have e0 : cntG (.node k t i v c b e) n = n + 1 := IntWalk.i64_in _ (by omega)
    rw [foldS, e0, foldL_cnt b (n + 1) (by omega) (by omega), foldL_cnt e _ (by omega) (by omega)]; omega
theorem foldL_cnt : ∀ (l : List St) (n : Int), 0 ≤ n → n + stsN l ≤ 4611686018427387904 → foldL cntG l n = n + stsN l
  | [], n, _, _ => by simp [foldL, stsN]
  | s :: l, n, h0, h => by
    rw [stsN] at h ⊢
    rw [foldL, foldS_cnt s n h0 (by omega), foldL_cnt l _ (by omega) (by omega)]; omega
end
mutual
def freeS : St → Bool | .node k _ _ _ _ b e => !(k == 5) && (freeL b && freeL e)
def freeL : List St → Bool | [] => true | s :: l => freeS s && freeL l
end
def relG (s : St) (h : Bool) : Bool := h || s.kind == 5
mutual
theorem foldS_rel : ∀ (s : St) (h : Bool), foldS relG s h = (h || !freeS s)
  | .node k t i v c b e, h => by
    rw [foldS, foldL_rel b, foldL_rel e, freeS, relG]
    show (((h || k == 5) || !freeL b) || !freeL e) = (h || !(!(k == 5) && (freeL b && freeL e)))
    cases h <;> cases (k == 5) <;> cases freeL b <;> cases freeL e <;> rfl
theorem foldL_rel : ∀ (l : List St) (h : Bool), foldL relG l h = (h || !freeL l)
  | [], h => by simp [foldL, freeL]
  | s :: l, h => by rw [foldL, foldS_rel s, foldL_rel l, freeL]; cases h <;> cases freeS s <;> cases freeL l <;> rfl
end
/-- writes: which variables, which arrays -/
def wrG (s : St) (a : List Bool × List Bool) : List Bool × List Bool :=
  if s.kind = 1 ∨ s.kind = 5 then (a.1.set s.target.toNat true, a.2) else if s.kind = 2 then (a.1, a.2.set s.target.toNat true) else a
theorem wrG_len (s : St) (a : List Bool × List Bool) : (wrG s a).1.length = a.1.length ∧ (wrG s a).2.length = a.2.length := by
  unfold wrG; split
  · simp
  · split <;> simp
mutual
theorem foldS_wr : ∀ (s : St) (a : List Bool × List Bool), (foldS wrG s a).1.length = a.1.length ∧ (foldS wrG s a).2.length = a.2.length
  | .node k t i v c b e, a => by
    have h1 := wrG_len (.node k t i v c b e) a
    have h2 := foldL_wr b (wrG (.node k t i v c b e) a)
    have h3 := foldL_wr e (foldL wrG b (wrG (.node k t i v c b e) a))
    rw [foldS]; omega
theorem foldL_wr : ∀ (l : List St) (a : List Bool × List Bool), (foldL wrG l a).1.length = a.1.length ∧ (foldL wrG l a).2.length = a.2.length
  | [], a => ⟨rfl, rfl⟩
  | s :: l, a => by
    have h1 := foldS_wr s a
    have h2 := foldL_wr l (foldS wrG s a)
    rw [foldL]; omega
end
mutual
/-- the flow: own s x is what a statement's own check finds in a context -/
def flS (lb : Ex → Int) (own : St → Int → Int) : St → Int → Int → Int × Int
  | .node k t i v c b e, x, n => if own (.node k t i v c b e) x = 0 then
      (if (flL lb own b (inCtx lb k v x) (n + 1)).1 = 0 then flL lb own e (inCtx lb k v x) (flL lb own b (inCtx lb k v x) (n + 1)).2 else flL lb own b (inCtx lb k v x) (n + 1))
    else (own (.node k t i v c b e) x, n)
def flL (lb : Ex → Int) (own : St → Int → Int) : List St → Int → Int → Int × Int
  | [], _, n => (0, n)
  | s :: l, x, n => if (flS lb own s x n).1 = 0 then flL lb own l x (flS lb own s x n).2 else flS lb own s x n
end
def flG (own : St → Int → Int) (s : St) (x : Int) (a : Int × Int × Int) : Int × Int × Int :=
  if a.1 = 0 then (own s x, if own s x = 0 then a.2.1 else a.2.2, IntKind.i64.wrap (a.2.2 + 1)) else (a.1, a.2.1, IntKind.i64.wrap (a.2.2 + 1))
mutual
theorem eachS_bad (lb : Ex → Int) (own : St → Int → Int) : ∀ (s : St) (x c p n : Int), c ≠ 0 → ∃ m, eachS lb (flG own) s x (c, p, n) = (c, p, m)
  | .node k t i v cc b e, x, c, p, n, hc => by
    rw [eachS, flG, if_neg hc]
    obtain ⟨m1, h1⟩ := eachL_bad lb own b (inCtx lb k v x) c p (IntKind.i64.wrap (n + 1)) hc
    rw [h1]
    exact eachL_bad lb own e _ c p m1 hc
theorem eachL_bad (lb : Ex → Int) (own : St → Int → Int) : ∀ (l : List St) (x c p n : Int), c ≠ 0 → ∃ m, eachL lb (flG own) l x (c, p, n) = (c, p, m)
  | [], _, _, _, n, _ => ⟨n, rfl⟩
  | s :: l, x, c, p, n, hc => by
    obtain ⟨m1, h1⟩ := eachS_bad lb own s x c p n hc
    rw [eachL, h1]
    exact eachL_bad lb own l x c p m1 hc
end
mutual
theorem eachS_fl (lb : Ex → Int) (own : St → Int → Int) : ∀ (s : St) (x n : Int), 0 ≤ n → n + stN s ≤ 4611686018427387904 →
    ((flS lb own s x n).1 = 0 → (flS lb own s x n).2 = n + stN s ∧ eachS lb (flG own) s x (0, -1, n) = (0, -1, n + stN s)) ∧ ((flS lb own s x n).1 ≠ 0 → ∃ m, eachS lb (flG own) s x (0, -1, n) = ((flS lb own s x n).1, (flS lb own s x n).2, m))
  | .node k t i v c b e, x, n, h0, h => by
    rw [stN] at h ⊢
    have e0 : IntKind.i64.wrap (n + 1) = n + 1 := IntWalk.i64_in _ (by omega)
    rw [flS, eachS, flG, if_pos rfl]
    dsimp only
    rw [e0]
    by_cases ho : own (.node k t i v c b e) x = 0
    · rw [if_pos ho, if_pos ho, ho]
      have h1 := eachL_fl lb own b (inCtx lb k v x) (n + 1) (by omega) (by omega)
      by_cases hb : (flL lb own b (inCtx lb k v x) (n + 1)).1 = 0
      · obtain ⟨g1, g2⟩ := h1.1 hb
        have h2 := eachL_fl lb own e (inCtx lb k v x) (n + 1 + stsN b) (by omega) (by omega)
        rw [if_pos hb, g1, g2]
        refine ⟨fun h => ?_, h2.2⟩
        obtain ⟨g3, g4⟩ := h2.1 h
        rw [g3, g4]
        have e : n + 1 + (stsN b : Int) + (stsN e : Int) = n + ((1 + stsN b + stsN e : Nat) : Int) := by omega
        rw [e]
        exact ⟨rfl, rfl⟩
      · rw [if_neg hb]
        refine ⟨fun h => absurd h hb, fun _ => ?_⟩
        obtain ⟨m, hm⟩ := h1.2 hb
        rw [hm]
        exact eachL_bad lb own e _ _ _ m hb
    · rw [if_neg ho, if_neg ho]
      refine ⟨fun h => absurd h ho, fun _ => ?_⟩
      obtain ⟨m1, hm1⟩ := eachL_bad lb own b (inCtx lb k v x) (own (.node k t i v c b e) x) n (n + 1) ho
      rw [hm1]
      exact eachL_bad lb own e _ _ _ m1 ho
theorem eachL_fl (lb : Ex → Int) (own : St → Int → Int) : ∀ (l : List St) (x n : Int), 0 ≤ n → n + stsN l ≤ 4611686018427387904 →
    ((flL lb own l x n).1 = 0 → (flL lb own l x n).2 = n + stsN l ∧ eachL lb (flG own) l x (0, -1, n) = (0, -1, n + stsN l)) ∧ ((flL lb own l x n).1 ≠ 0 → ∃ m, eachL lb (flG own) l x (0, -1, n) = ((flL lb own l x n).1, (flL lb own l x n).2, m))
  | [], x, n, h0, h => by simp [flL, eachL, stsN]
  | s :: l, x, n, h0, h => by
    rw [stsN] at h ⊢
    rw [flL, eachL]
    have h1 := eachS_fl lb own s x n h0 (by omega)
    by_cases hs : (flS lb own s x n).1 = 0
    · obtain ⟨g1, g2⟩ := h1.1 hs
      have h2 := eachL_fl lb own l x (n + stN s) (by omega) (by omega)
      rw [if_pos hs, g1, g2]
      refine ⟨fun h => ?_, h2.2⟩
      obtain ⟨g3, g4⟩ := h2.1 h
      rw [g3, g4]
      have e : n + (stN s : Int) + (stsN l : Int) = n + ((stN s + stsN l : Nat) : Int) := by omega
      rw [e]
      exact ⟨rfl, rfl⟩
    · rw [if_neg hs]
      refine ⟨fun h => absurd h hs, fun _ => ?_⟩
      obtain ⟨m, hm⟩ := h1.2 hs
      rw [hm]
      exact eachL_bad lb own l x _ _ m hs
end
end Go.Proofs.YtckikiaockkmbaaDoor.Val
