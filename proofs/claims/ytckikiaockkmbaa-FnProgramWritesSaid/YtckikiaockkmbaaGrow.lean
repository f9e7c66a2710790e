/- Rows of the call's own whose elements lead on into memory (expressions, statements): they grow by append, or are changed in one cell; what an element leads to lies in blocks apart from the row's own. No program in sight; no conditions. -/
import Derived.Test.YtckikiaockkmbaaAppS
import Derived.Test.YtckikiaockkmbaaOwnM
import Derived.Test.YtckikiaockkmbaaStmt
namespace Go.Proofs.Ytckikiaockkmbaa
open Go.RowKit Kit
set_option linter.unusedVariables false
/-- what an element means, seen from blocks lo .. hi - 1 -/
structure Means (α β : Type) where
  R : World → Nat → Nat → α → β → Prop
  keep : ∀ {w w' : World} {lo hi : Nat} {x : α} {y : β}, R w lo hi x y → (∀ k, lo ≤ k → k < hi → w'.heap[k]? = w.heap[k]?) → R w' lo hi x y
  mono : ∀ {w : World} {lo hi lo' hi' : Nat} {x : α} {y : β}, R w lo hi x y → lo' ≤ lo → hi ≤ hi' → R w lo' hi' x y
/-- a row of the call's own, from block base on, that means the list l -/
def RowG {α β : Type} (n : Nat) (enc : α → Nat → Value) (M : Means α β) (w : World) (base : Nat) (T : TypeId) (v : Value) (l : List β) : Prop :=
  ∃ xs : List α, OwnF n enc w base T v xs ∧ xs.length = l.length ∧ ∀ i (h : i < xs.length) (h' : i < l.length), ∃ lo hi, base ≤ lo ∧ hi ≤ w.heap.size ∧ (∀ b, v.ownBlock = some b → b < lo ∨ hi ≤ b) ∧ M.R w lo hi xs[i] l[i]
namespace RowG
variable {α β : Type} {n : Nat} {enc : α → Nat → Value} {M : Means α β} {w w' : World} {base : Nat} {T : TypeId} {v : Value} {l : List β}
theorem nil (w : World) (base : Nat) (T : TypeId) : RowG n enc M w base T (.slice none 0 0) [] := ⟨[], OwnF.nil w base T, rfl, fun i h => absurd h (Nat.not_lt_zero _)⟩
theorem empty (w : World) (T : TypeId) {base : Nat} (hb : base ≤ w.heap.size) : RowG n enc M (w.alloc (.cells #[] T)) base T (.slice (some ⟨w.heap.size, 0, none⟩) 0 0) [] := ⟨[], OwnF.empty w T hb, rfl, fun i h => absurd h (Nat.not_lt_zero _)⟩
theorem lt (h : RowG n enc M w base T v l) : ∀ k, v.ownBlock = some k → base ≤ k ∧ k < w.heap.size := by obtain ⟨xs, h1, _⟩ := h; exact h1.lt
theorem len (h : RowG n enc M w base T v l) : ∃ a cap, v = .slice a l.length cap ∧ l.length ≤ 9223372036854775807 := by
  obtain ⟨xs, h1, h2, _⟩ := h
  obtain ⟨a, cap, e, hl⟩ := h1.reads.len
  exact ⟨a, cap, by rw [e, h2], by omega⟩
theorem kp (h : RowG n enc M w base T v l) {S : Nat → Prop} (k : Kp S w w') (hs : ∀ b, S b → b < base) : RowG n enc M w' base T v l := by
  obtain ⟨xs, h1, h2, h3⟩ := h
  refine ⟨xs, h1.kp k (fun b hb hS => by have := (h1.lt b hb).1; have := hs b hS; omega), h2, fun i hi h' => ?_⟩
  obtain ⟨lo, hi2, p1, p2, p3, p4⟩ := h3 i hi h'
  exact ⟨lo, hi2, p1, Nat.le_trans p2 k.size, p3, M.keep p4 fun b q1 q2 => k.block b (by omega) (fun hS => by have := hs b hS; omega)⟩
theorem new (h : RowG n enc M w base T v l) (k : New w w') : RowG n enc M w' base T v l := h.kp k (fun _ f => f.elim)
theorem mono (h : RowG n enc M w base T v l) {base' : Nat} (hb : base' ≤ base) : RowG n enc M w base' T v l := by
  obtain ⟨xs, h1, h2, h3⟩ := h
  refine ⟨xs, h1.mono hb, h2, fun i hi h' => ?_⟩
  obtain ⟨lo, hi2, p1, p2, p3, p4⟩ := h3 i hi h'
  exact ⟨lo, hi2, by omega, p2, p3, p4⟩
/-- one element more: what append leaves -/
theorem snoc {xs : List α} {v' : Value} {x : α} {y : β} {lo hi : Nat} (hb : base ≤ w.heap.size) (h2 : xs.length = l.length) (h1 : OwnF n enc w base T v xs)
    (h3 : ∀ i (h : i < xs.length) (h' : i < l.length), ∃ lo hi, base ≤ lo ∧ hi ≤ w.heap.size ∧ (∀ b, v.ownBlock = some b → b < lo ∨ hi ≤ b) ∧ M.R w lo hi xs[i] l[i])
    (hn : OwnF n enc w' base T v' (xs ++ [x])) (k : Kp (fun k => v.ownBlock = some k) w w') (hv : v'.ownBlock = v.ownBlock ∨ v'.ownBlock = some w.heap.size)
    (q1 : base ≤ lo) (q2 : hi ≤ w.heap.size) (q3 : ∀ b, v.ownBlock = some b → b < lo ∨ hi ≤ b) (q4 : M.R w lo hi x y) : RowG n enc M w' base T v' (l ++ [y]) := by
  have off : ∀ lo hi, hi ≤ w.heap.size → (∀ b, v.ownBlock = some b → b < lo ∨ hi ≤ b) → ∀ b, v'.ownBlock = some b → b < lo ∨ hi ≤ b := by
    intro lo hi p2 p3 b hb
    rcases hv with e | e
    · exact p3 b (e ▸ hb)
    · rw [e] at hb; cases hb; omega
  have kk : ∀ lo hi, hi ≤ w.heap.size → (∀ b, v.ownBlock = some b → b < lo ∨ hi ≤ b) → ∀ c, lo ≤ c → c < hi → w'.heap[c]? = w.heap[c]? := fun lo hi p2 p3 c c1 c2 => k.block c (by omega) (fun e => by have := p3 c e; omega)
  refine ⟨xs ++ [x], hn, by simp [h2], fun i hi' h' => ?_⟩
  by_cases e : i < xs.length
  · have e2 : i < l.length := by omega
    obtain ⟨lo2, hi2, p1, p2, p3, p4⟩ := h3 i e e2
    rw [List.getElem_append_left e, List.getElem_append_left e2]
    exact ⟨lo2, hi2, p1, Nat.le_trans p2 k.size, off _ _ p2 p3, M.keep p4 (kk _ _ p2 p3)⟩
  · have e1 : i = xs.length := by simp at hi'; omega
    subst e1
    have e3 : (xs ++ [x])[xs.length] = x := by simp
    have e4 : (l ++ [y])[xs.length] = y := by simp [h2]
    rw [e3, e4]
    exact ⟨lo, hi, q1, Nat.le_trans q2 k.size, off _ _ q2 q3, M.keep q4 (kk _ _ q2 q3)⟩
/-- nil, or a row with cells that may be written -/
theorem row (h : RowG n enc M w base T v l) (j : Nat) (hj : j < l.length) : ∃ b cap x lo hi, v = .slice (some ⟨b, 0, none⟩) l.length cap ∧ base ≤ b ∧ b < w.heap.size ∧ base ≤ lo ∧ hi ≤ w.heap.size ∧ (b < lo ∨ hi ≤ b) ∧ M.R w lo hi x l[j] ∧
    (∀ t, t < n → w.cell? ⟨b, j * n + t, none⟩ = some (enc x t)) ∧ (∀ o, w.frozen? ⟨b, o, none⟩ = false) ∧
    ∀ t, t < n → ∀ (x' : α) (y' : β) u, (∀ q, q < n → enc x' q = if q = t then u else enc x q) → M.R w lo hi x' y' → RowG n enc M (w.setCell ⟨b, j * n + t, none⟩ u) base T v (l.set j y') := by
  obtain ⟨xs, h1, h2, h3⟩ := h
  have hjx : j < xs.length := by omega
  obtain ⟨lo, hi, p1, p2, p3, p4⟩ := h3 j hjx hj
  rcases h1.form with ⟨e, _⟩ | ⟨b, cap, cs, rfl, hb1, hb2, hb3, hh, hs, hc⟩
  · subst e; exact absurd hjx (Nat.not_lt_zero _)
  · have hbw := heap_lt hh
    have hbo := p3 b (by simp [Value.ownBlock])
    refine ⟨b, cap, xs[j], lo, hi, by rw [h2], hb1, hbw, p1, p2, hbo, p4, fun t ht => (cell_of_heap hh _).trans (hc j hjx t ht), fun o => frozen_of_heap hh o, fun t ht x' y' u hu hm => ?_⟩
    have kk : Kp (fun k => k = b) w (w.setCell ⟨b, j * n + t, none⟩ u) := (Kp.refl (fun k => k = b) w).setCell (.inl rfl) _
    have keep : ∀ lo hi, hi ≤ w.heap.size → (∀ k, (Value.slice (some ⟨b, 0, none⟩) xs.length cap).ownBlock = some k → k < lo ∨ hi ≤ k) → ∀ c, lo ≤ c → c < hi → (w.setCell ⟨b, j * n + t, none⟩ u).heap[c]? = w.heap[c]? :=
      fun lo hi p2 p3 c c1 c2 => kk.block c (by omega) (fun e => by have := p3 b (by simp [Value.ownBlock]); omega)
    refine ⟨xs.set j x', ?_, by simp [h2], fun i hi' h' => ?_⟩
    · rw [show xs.length = (xs.set j x').length by simp]
      refine OwnF.mk' (setCell_heap hh u) hb1 (by simpa using hb2) hb3 (by simpa using hs) fun i hi' q hq => ?_
      have hi2 : i < xs.length := by simpa using hi'
      rw [Array.getElem?_setIfInBounds]
      by_cases e : j = i
      · subst e
        rw [List.getElem_set_self, hu q hq]
        by_cases e2 : q = t
        · subst e2
          have hlt : j * n + q < cs.size := by
            have : (j + 1) * n ≤ xs.length * n := Nat.mul_le_mul_right _ hjx
            have h3 : xs.length * n ≤ cap * n := Nat.mul_le_mul_right _ hb2
            rw [Nat.add_mul] at this; omega
          simp [hlt]
        · rw [if_neg (by omega), if_neg e2]; exact hc j hjx q hq
      · rw [List.getElem_set_ne e]
        have ne : j * n + t ≠ i * n + q := by
          rcases Nat.lt_or_ge j i with g | g
          · have : (j + 1) * n ≤ i * n := Nat.mul_le_mul_right _ g
            rw [Nat.add_mul] at this; omega
          · have : (i + 1) * n ≤ j * n := Nat.mul_le_mul_right _ (by omega)
            rw [Nat.add_mul] at this; omega
        rw [if_neg ne]; exact hc i hi2 q hq
    · have hi2 : i < xs.length := by simpa using hi'
      have h2' : i < l.length := by simpa using h'
      by_cases e : j = i
      · subst e
        rw [List.getElem_set_self, List.getElem_set_self]
        exact ⟨lo, hi, p1, Nat.le_trans p2 kk.size, p3, M.keep hm (keep _ _ p2 p3)⟩
      · rw [List.getElem_set_ne e, List.getElem_set_ne e]
        obtain ⟨lo2, hi3, r1, r2, r3, r4⟩ := h3 i hi2 h2'
        exact ⟨lo2, hi3, r1, Nat.le_trans r2 kk.size, r3, M.keep r4 (keep _ _ r2 r3)⟩
end RowG
section
variable {α β : Type} {n : Nat} {enc : α → Nat → Value} {M : Means α β} {P : Program} {w : World}
theorem one_src {b c : Nat} {y : α} (hc : 1 ≤ c) (hm : c ≤ 9223372036854775807) (hnews : ∀ t, t < n → w.cell? ⟨b, t, none⟩ = some (enc y t)) : FlR n enc w b (b + 1) (.slice (some ⟨b, 0, none⟩) 1 c) [y] :=
  .cons b 0 c [y] (by simp) (Nat.le_refl _) (by omega) (by simpa using hc) hm fun i hi t ht => by
    obtain rfl : i = 0 := by simpa using hi
    simpa using hnews t ht
/-- append of one element that leads on, in a list -/
theorem wpList_grow {ops : Array Oper} {rest : List Oper} {o : Oper} {a : Act} {Q : Exit → Act → World → Prop} (hgd : o.guard = none) (s x : Operand) (t : TypeId)
    (ho : o.op = .call { callee := .builtin .append, args := #[s, x], argTypes := #[t, t] })
    (base : Nat) (e : TypeId) (z : Value) (bytes : Nat) (ht : P.underlying t = some (.slice e)) (hinfo : (P.info? e).map (fun i => (i.zero, i.size, i.bytes)) = some (some z, n, bytes)) (hzs : z.cells.size = n) (hn : 0 < n)
    (v : Value) (l : List β) (hs : a.eval s = v) (hown : RowG n enc M w base e v l) (b c : Nat) (y : α) (u : β) (hx : a.eval x = .slice (some ⟨b, 0, none⟩) 1 c) (hc1 : 1 ≤ c) (hc2 : c ≤ 9223372036854775807) (hnews : ∀ t, t < n → w.cell? ⟨b, t, none⟩ = some (enc y t)) (h1 : ∀ t, (enc y t).oneCell' = true)
    (lo hi : Nat) (q1 : base ≤ lo) (q2 : hi ≤ w.heap.size) (q3 : ∀ b, v.ownBlock = some b → b < lo ∨ hi ≤ b) (q4 : M.R w lo hi y u)
    (hlen : (l.length + 1) * bytes ≤ 140737488355328) (h63 : l.length + 1 ≤ 9223372036854775807) (hbase : base ≤ w.heap.size)
    (h : ∀ v' w', RowG n enc M w' base e v' (l ++ [u]) → Kp (fun k => v.ownBlock = some k) w w' → (v'.ownBlock = v.ownBlock ∨ v'.ownBlock = some w.heap.size) → wpList P ops Q rest (a.put o.dst v') w') : wpList P ops Q (o :: rest) a w := by
  obtain ⟨xs, o1, o2, o3⟩ := hown
  refine wpList_pushesN hgd s x t ho base e z bytes ht hinfo hzs hn v xs hs o1 _ [y] hx (one_src hc1 hc2 hnews) (fun y' hy => by rw [List.mem_singleton] at hy; subst hy; exact h1) (by rw [o2]; exact hlen) (by rw [o2]; exact h63) hbase fun v' w' n1 n2 n3 => ?_
  exact h v' w' (RowG.snoc hbase o2 o1 o3 n1 n2 n3 q1 q2 q3 q4) n2 n3
/-- the same at a step of a region that draws -/
theorem step_grow {ops : Array Oper} {o : Oper} {a : Act} {K : Act → World → Prop} {Q : Exit → Act → World → Prop} {E : Prop} (hgd : o.guard = none) (s x : Operand) (t : TypeId)
    (ho : o.op = .call { callee := .builtin .append, args := #[s, x], argTypes := #[t, t] })
    (base : Nat) (e : TypeId) (z : Value) (bytes : Nat) (ht : P.underlying t = some (.slice e)) (hinfo : (P.info? e).map (fun i => (i.zero, i.size, i.bytes)) = some (some z, n, bytes)) (hzs : z.cells.size = n) (hn : 0 < n)
    (v : Value) (l : List β) (hs : a.eval s = v) (hown : RowG n enc M w base e v l) (b c : Nat) (y : α) (u : β) (hx : a.eval x = .slice (some ⟨b, 0, none⟩) 1 c) (hc1 : 1 ≤ c) (hc2 : c ≤ 9223372036854775807) (hnews : ∀ t, t < n → w.cell? ⟨b, t, none⟩ = some (enc y t)) (h1 : ∀ t, (enc y t).oneCell' = true)
    (lo hi : Nat) (q1 : base ≤ lo) (q2 : hi ≤ w.heap.size) (q3 : ∀ b, v.ownBlock = some b → b < lo ∨ hi ≤ b) (q4 : M.R w lo hi y u)
    (hlen : (l.length + 1) * bytes ≤ 140737488355328) (h63 : l.length + 1 ≤ 9223372036854775807) (hbase : base ≤ w.heap.size)
    (h : ∀ v' w', RowG n enc M w' base e v' (l ++ [u]) → Kp (fun k => v.ownBlock = some k) w w' → (v'.ownBlock = v.ownBlock ∨ v'.ownBlock = some w.heap.size) → K (a.put o.dst v') w') : if Region.wanted o (yielded ops a.tmps) = true then Oper.wp P o a w K Q else E := by
  obtain ⟨xs, o1, o2, o3⟩ := hown
  refine step_pushes hgd s x t ho base e z bytes ht hinfo hzs hn v xs hs o1 _ [y] hx (one_src hc1 hc2 hnews) (fun y' hy => by rw [List.mem_singleton] at hy; subst hy; exact h1) (by rw [o2]; exact hlen) (by rw [o2]; exact h63) hbase fun v' w' n1 n2 n3 => ?_
  exact h v' w' (RowG.snoc hbase o2 o1 o3 n1 n2 n3 q1 q2 q3 q4) n2 n3
end
/-- an expression as it lies -/
structure RX where
  k : Int
  v : Int
  s : Value
def encX (x : RX) : Nat → Value | 0 => .int .i64 x.k | 1 => .int .i64 x.v | _ => x.s
structure RX.Is (w : World) (lo hi : Nat) (x : RX) (e : Ex) : Prop where
  k : x.k = e.kind
  v : x.v = e.val
  s : KidsR w lo hi x.s e.kids
def MX : Means RX Ex := ⟨RX.Is, fun h k => ⟨h.k, h.v, h.s.keep k⟩, fun h a b => ⟨h.k, h.v, h.s.mono a b⟩⟩
/-- a statement as it lies -/
structure RS where
  k : Int
  t : Int
  ik : Int
  iv : Int
  i : Value
  vk : Int
  vv : Int
  v : Value
  c : Int
  b : Value
  e : Value
def encRS (x : RS) : Nat → Value | 0 => .int .i64 x.k | 1 => .int .i64 x.t | 2 => .int .i64 x.ik | 3 => .int .i64 x.iv | 4 => x.i | 5 => .int .i64 x.vk | 6 => .int .i64 x.vv | 7 => x.v | 8 => .int .i64 x.c | 9 => x.b | _ => x.e
structure RS.Is (w : World) (lo hi : Nat) (x : RS) (s : St) : Prop where
  k : x.k = s.kind
  t : x.t = s.target
  ik : x.ik = s.index.kind
  iv : x.iv = s.index.val
  i : KidsR w lo hi x.i s.index.kids
  vk : x.vk = s.value.kind
  vv : x.vv = s.value.val
  v : KidsR w lo hi x.v s.value.kids
  c : x.c = s.count
  b : StsR w lo hi x.b s.body
  e : StsR w lo hi x.e s.els
def MS : Means RS St := ⟨RS.Is, fun h k => ⟨h.k, h.t, h.ik, h.iv, h.i.keep k, h.vk, h.vv, h.v.keep k, h.c, h.b.keep k, h.e.keep k⟩, fun h p q => ⟨h.k, h.t, h.ik, h.iv, h.i.mono p q, h.vk, h.vv, h.v.mono p q, h.c, h.b.mono p q, h.e.mono p q⟩⟩
abbrev ExsG (w : World) (base : Nat) (T : TypeId) (v : Value) (l : List Ex) : Prop := RowG 3 encX MX w base T v l
abbrev StsG (w : World) (base : Nat) (T : TypeId) (v : Value) (l : List St) : Prop := RowG 11 encRS MS w base T v l
theorem KidsR.one {w : World} {lo hi : Nat} {s : Value} {ks : List Ex} (h : KidsR w lo hi s ks) : s.oneCell' = true := by obtain ⟨a, c, rfl, _⟩ := h.len; rfl
theorem StsR.one {w : World} {lo hi : Nat} {s : Value} {l : List St} (h : StsR w lo hi s l) : s.oneCell' = true := by obtain ⟨a, c, rfl, _⟩ := h.len; rfl
theorem RX.Is.one {w : World} {lo hi : Nat} {x : RX} {e : Ex} (h : RX.Is w lo hi x e) : ∀ t, (encX x t).oneCell' = true := fun t => by match t with | 0 => rfl | 1 => rfl | _ + 2 => exact h.s.one
theorem RS.Is.one {w : World} {lo hi : Nat} {x : RS} {s : St} (h : RS.Is w lo hi x s) : ∀ t, (encRS x t).oneCell' = true := fun t => by
  match t with | 0 => rfl | 1 => rfl | 2 => rfl | 3 => rfl | 4 => exact h.i.one | 5 => rfl | 6 => rfl | 7 => exact h.v.one | 8 => rfl | 9 => exact h.b.one | _ + 10 => exact h.e.one
theorem RowG.kids {w : World} {base : Nat} {T : TypeId} {v : Value} {l : List Ex} (h : ExsG w base T v l) : KidsR w base w.heap.size v l := by
  obtain ⟨xs, h1, h2, h3⟩ := h
  have hr := h1.reads
  cases hr with
  | nil a cap =>
    have e : l = [] := List.eq_nil_of_length_eq_zero (by simpa using h2.symm)
    subst e; exact .nil _ _
  | cons b o cap xs h0 hlo hhi hcap hmax c =>
    have hi : ∀ i (h : i < l.length), i < xs.length := fun i h => by omega
    have hg : ∀ i (h : i < l.length), xs.getD i ⟨0, 0, .nilIface⟩ = xs[i]'(hi i h) := fun i h => by simp [List.getElem?_eq_getElem (hi i h)]
    have hk : ∀ i (h : i < l.length), RX.Is w base w.heap.size (xs[i]'(hi i h)) l[i] := fun i h => by
      obtain ⟨lo, hi2, p1, p2, _, p4⟩ := h3 i (hi i h) h
      exact MX.mono p4 p1 p2
    rw [h2]
    refine .cons b o cap l (fun i => (xs.getD i ⟨0, 0, .nilIface⟩).s) (by omega) hlo hhi (by omega) hmax (fun i h => ?_) (fun i h => ?_) (fun i h => ?_) (fun i h => ?_)
    · rw [← (hk i h).k]; exact c i (hi i h) 0 (by omega)
    · rw [← (hk i h).v]; exact c i (hi i h) 1 (by omega)
    · simp only [hg i h]; exact c i (hi i h) 2 (by omega)
    · simp only [hg i h]; exact (hk i h).s
theorem RowG.sts {w : World} {base : Nat} {T : TypeId} {v : Value} {l : List St} (h : StsG w base T v l) : StsR w base w.heap.size v l := by
  obtain ⟨xs, h1, h2, h3⟩ := h
  have hr := h1.reads
  cases hr with
  | nil a cap =>
    have e : l = [] := List.eq_nil_of_length_eq_zero (by simpa using h2.symm)
    subst e; exact .nil _ _
  | cons b o cap xs h0 hlo hhi hcap hmax c =>
    let d : RS := ⟨0, 0, 0, 0, .nilIface, 0, 0, .nilIface, 0, .nilIface, .nilIface⟩
    have hi : ∀ i (h : i < l.length), i < xs.length := fun i h => by omega
    have hg : ∀ i (h : i < l.length), xs.getD i d = xs[i]'(hi i h) := fun i h => by simp [List.getElem?_eq_getElem (hi i h)]
    have hk : ∀ i (h : i < l.length), RS.Is w base w.heap.size (xs[i]'(hi i h)) l[i] := fun i h => by
      obtain ⟨lo, hi2, p1, p2, _, p4⟩ := h3 i (hi i h) h
      exact MS.mono p4 p1 p2
    rw [h2]
    refine .cons b o cap l (fun i => (xs.getD i d).i) (fun i => (xs.getD i d).v) (fun i => (xs.getD i d).b) (fun i => (xs.getD i d).e) (by omega) hlo hhi (by omega) hmax (fun i h => ?_) (fun i h => ?_) (fun i h => ?_) (fun i h => ?_) (fun i h => ?_) (fun i h => ?_) (fun i h => ?_) (fun i h => ?_) (fun i h => ?_) (fun i h => ?_) (fun i h => ?_) (fun i h => ?_) (fun i h => ?_) (fun i h => ?_) (fun i h => ?_)
    · rw [← (hk i h).k]; exact c i (hi i h) 0 (by omega)
    · rw [← (hk i h).t]; exact c i (hi i h) 1 (by omega)
    · rw [← (hk i h).ik]; exact c i (hi i h) 2 (by omega)
    · rw [← (hk i h).iv]; exact c i (hi i h) 3 (by omega)
    · simp only [hg i h]; exact c i (hi i h) 4 (by omega)
    · rw [← (hk i h).vk]; exact c i (hi i h) 5 (by omega)
    · rw [← (hk i h).vv]; exact c i (hi i h) 6 (by omega)
    · simp only [hg i h]; exact c i (hi i h) 7 (by omega)
    · rw [← (hk i h).c]; exact c i (hi i h) 8 (by omega)
    · simp only [hg i h]; exact c i (hi i h) 9 (by omega)
    · simp only [hg i h]; exact c i (hi i h) 10 (by omega)
    · simp only [hg i h]; exact (hk i h).i
    · simp only [hg i h]; exact (hk i h).v
    · simp only [hg i h]; exact (hk i h).b
    · simp only [hg i h]; exact (hk i h).e
end Go.Proofs.Ytckikiaockkmbaa
