/- Draws of blocks of statements, out of draws of single statements. Conditions: fewer than 2^40 picks so far. -/
import Derived.Test.YtckikiaockkmbaaDoorXDrawX
import Derived.Test.YtckikiaockkmbaaDoorXP1
namespace Go.Proofs.YtckikiaockkmbaaDoor.DrawB
open Go.RowKit Kit Draw DrawX
set_option linter.unusedVariables false
def cellsS (x : RS) : Array Value := #[.int .i64 x.k, .int .i64 x.t, .int .i64 x.ik, .int .i64 x.iv, x.i, .int .i64 x.vk, .int .i64 x.vv, x.v, .int .i64 x.c, x.b, x.e]
/-- a statement drawn by at most c picks, of at most n parts -/
def GotS (w : World) (br p c n : Nat) (e : Ending) (w' : World) : Prop := ∃ (x : RS) (s : St) (q : Nat), e = .returned (.agg (cellsS x)) ∧ One br w w' ∧ Rd w' br q ∧ q ≤ p + c ∧ RS.Is w' w.heap.size w'.heap.size x s ∧ s.size ≤ n
/-- a block drawn by at most c picks, of at most n parts -/
def GotB (w : World) (br p c n : Nat) (e : Ending) (w' : World) : Prop := ∃ (a : Option Addr) (d : Nat) (l : List St) (q : Nat), e = .returned (.slice a l.length d) ∧ One br w w' ∧ Rd w' br q ∧ q ≤ p + c ∧ StsR w' w.heap.size w'.heap.size (.slice a l.length d) l ∧ St.sizes l ≤ n
theorem infoS : (Tryd.prog.info? 92).map (fun i => (i.zero, i.size, i.bytes)) = some (some (.agg #[.int .i64 0, .int .i64 0, .int .i64 0, .int .i64 0, .slice none 0 0, .int .i64 0, .int .i64 0, .slice none 0 0, .int .i64 0, .slice none 0 0, .slice none 0 0]), 11, 152) := by kernel_rfl
theorem newsS (w : World) (x : RS) (T : TypeId) : ∀ t, t < 11 → (w.alloc (.cells (cellsS x) T)).cell? ⟨w.heap.size, t, none⟩ = some (encRS x t) := by
  intro t ht
  match t, ht with
  | 0, _ => exact World.cell?_alloc_new _ _ _ _
  | 1, _ => exact World.cell?_alloc_new _ _ _ _
  | 2, _ => exact World.cell?_alloc_new _ _ _ _
  | 3, _ => exact World.cell?_alloc_new _ _ _ _
  | 4, _ => exact World.cell?_alloc_new _ _ _ _
  | 5, _ => exact World.cell?_alloc_new _ _ _ _
  | 6, _ => exact World.cell?_alloc_new _ _ _ _
  | 7, _ => exact World.cell?_alloc_new _ _ _ _
  | 8, _ => exact World.cell?_alloc_new _ _ _ _
  | 9, _ => exact World.cell?_alloc_new _ _ _ _
  | 10, _ => exact World.cell?_alloc_new _ _ _ _
theorem sizesS_snoc (l : List St) (e : St) : St.sizes (l ++ [e]) = St.sizes l + e.size := by
  induction l with
  | nil => simp [St.sizes]
  | cons a l ih => simp [St.sizes, ih]; omega
theorem RS.Is.forms {w : World} {lo hi : Nat} {x : RS} {s : St} (h : RS.Is w lo hi x s) : (∃ a n d, x.i = .slice a n d) ∧ (∃ a n d, x.v = .slice a n d) ∧ (∃ a n d, x.b = .slice a n d) ∧ ∃ a n d, x.e = .slice a n d := by
  obtain ⟨a1, d1, e1, _⟩ := h.i.len
  obtain ⟨a2, d2, e2, _⟩ := h.v.len
  obtain ⟨a3, d3, e3, _⟩ := h.b.len
  obtain ⟨a4, d4, e4, _⟩ := h.e.len
  exact ⟨⟨_, _, _, e1⟩, ⟨_, _, _, e2⟩, ⟨_, _, _, e3⟩, _, _, _, e4⟩
def Bk (w : World) (br p c n : Nat) (vp : Array Value) (m : Nat) (v : Value) (wr : World) : Prop := ∃ (l : List St) (a : Option Addr) (dd q : Nat), v = .slice a m dd ∧ l.length = m ∧ One br w wr ∧ Rd wr br q ∧ q ≤ p + m * c ∧ wr.heap[w.heap.size]? = some (.cells vp 41 (0, 0)) ∧ StsG wr (w.heap.size + 1) 92 v l ∧ St.sizes l ≤ m * n
set_option maxHeartbeats 8000000 in
set_option maxRecDepth 100000 in
theorem block_of (a1 a2 a3 : Option Addr) (nv d1 na d2 nb d3 : Nat) (z : Int) (c s : Nat)
    (hS : ∀ (w : World) (br p : Nat), Rd w br p → p + c < 1099511627776 → Calls Tryd.prog 88 #[.pointer (some ⟨br, 0, none⟩), .agg #[.slice a1 nv d1, .slice a2 na d2, .slice a3 nb d3], .int .i64 z] w (GotS w br p c s))
    (w : World) (br p n : Nat) (h : Rd w br p) (hn : n ≤ 4) (hp : p + 4 * c < 1099511627776) :
    Calls Tryd.prog 68 #[.pointer (some ⟨br, 0, none⟩), .agg #[.slice a1 nv d1, .slice a2 na d2, .slice a3 nb d3], .int .i64 z, .int .i64 n] w (GotB w br p (4 * c) (4 * s)) := by
  have hbl := h.lt
  have hSh := Lib.hid hS
  clear hS
  have N0 : New w (w.alloc (.cells #[.slice a1 nv d1, .slice a2 na d2, .slice a3 nb d3] 41)) := (Kp.refl _ _).alloc _
  have bP := alloc_heap w (.cells #[.slice a1 nv d1, .slice a2 na d2, .slice a3 nb d3] 41)
  have kA : New (w.alloc (.cells #[.slice a1 nv d1, .slice a2 na d2, .slice a3 nb d3] 41)) ((w.alloc (.cells #[.slice a1 nv d1, .slice a2 na d2, .slice a3 nb d3] 41)).alloc (.cells #[] 92)) := (Kp.refl _ _).alloc _
  have hG0 : StsG ((w.alloc (.cells #[.slice a1 nv d1, .slice a2 na d2, .slice a3 nb d3] 41)).alloc (.cells #[] 92)) (w.heap.size + 1) 92 (.slice (some ⟨(w.alloc (.cells #[.slice a1 nv d1, .slice a2 na d2, .slice a3 nb d3] 41)).heap.size, 0, none⟩) 0 0) [] := RowG.empty _ _ (by simp)
  have hsz : (w.alloc (.cells #[.slice a1 nv d1, .slice a2 na d2, .slice a3 nb d3] 41)).heap.size = w.heap.size + 1 := by simp
  rw [hsz] at hG0
  have hB : Bk w br p c s #[.slice a1 nv d1, .slice a2 na d2, .slice a3 nb d3] 0 (.slice (some ⟨w.heap.size + 1, 0, none⟩) 0 0) ((w.alloc (.cells #[.slice a1 nv d1, .slice a2 na d2, .slice a3 nb d3] 41)).alloc (.cells #[] 92)) :=
    ⟨[], _, _, p, rfl, rfl, (N0.trans kA).mono (fun _ _ f => f.elim), (h.keep N0 (fun _ f => f.elim)).keep kA (fun _ f => f.elim), by omega, heap_new kA bP, hG0, by simp [St.sizes]⟩
  have hBh := Lib.hid hB
  clear hB hG0 kA bP N0 h hsz
  go_enter Tryd.func68, Tryd.ntmps68
  go_wp2_with fail
  generalize ((w.alloc (.cells #[.slice a1 nv d1, .slice a2 na d2, .slice a3 nb d3] 41)).alloc (.cells #[] 92)) = w0 at *
  go_loopw [9, 10] (fun v i wr => ∃ j : Nat, j ≤ n ∧ i = .int .i64 j ∧ Bk w br p c s #[.slice a1 nv d1, .slice a2 na d2, .slice a3 nb d3] j v wr) (fun _ i _ => n - (intOf i).toNat)
  case atStart => exact ⟨0, Nat.zero_le _, rfl, hBh.out⟩
  case round =>
    obtain ⟨j, hj, rfl, l, a, dd, q, rfl, hl, K, hr, hq, bP, hG, hsz⟩ := hrel
    clear hBh
    have hGh := Lib.hid hG
    have hlh := Lib.hid hl
    have zK := K.size
    have hGl := hG.lt
    have hGlh := Lib.hid hGl
    clear hG hl hGl
    by_cases hlt : j < n
    · obtain ⟨p0, p1, p2⟩ := cells3 bP
      have pl := heap_lt bP
      have hmul : j * c ≤ 3 * c := Nat.mul_le_mul_right _ (by omega)
      go_wp2_with fail
      refine (hSh.out wr br q hr (by omega)).mono ?_
      rintro e w1 ⟨x, st, q', rfl, k1, h1, hq1, his, hss⟩
      have z1 := k1.size
      have bP1 := (k1.block _ pl (by omega)).trans bP
      have hG1 := Lib.hid (hGh.out.kp k1 (fun b e => by omega))
      have K1 := K.trans k1
      obtain ⟨⟨ai, ni, di, ei⟩, ⟨av, nv', dv, ev⟩, ⟨ab, nb', db, eb⟩, ae, ne, de, ee⟩ := RS.Is.forms his
      obtain ⟨xk, xt, xik, xiv, xi, xvk, xvv, xv, xc, xb, xe⟩ := x
      dsimp only at ei ev eb ee
      subst ei; subst ev; subst eb; subst ee
      have hish := Lib.hid his
      clear his p0 p1 p2 k1
      unfold cellsS
      dsimp only
      have hnx : New w1 (w1.alloc (.cells (cellsS ⟨xk, xt, xik, xiv, .slice ai ni di, xvk, xvv, .slice av nv' dv, xc, .slice ab nb' db, .slice ae ne de⟩) 92)) := (Kp.refl _ _).alloc _
      have hnxh := Lib.hid hnx
      clear hnx
      go_wp2_with (at_builtin; refine wpList_grow rfl _ _ 39 rfl (w.heap.size + 1) 92 _ 152 Tryd.underlying39 infoS rfl (by decide) (.slice a j dd) l rfl (hG1.out.new ((Kp.refl _ _).alloc _)) w1.heap.size 1 ⟨xk, xt, xik, xiv, .slice ai ni di, xvk, xvv, .slice av nv' dv, xc, .slice ab nb' db, .slice ae ne de⟩ st rfl (Nat.le_refl _) (by decide) (newsS w1 ⟨xk, xt, xik, xiv, .slice ai ni di, xvk, xvv, .slice av nv' dv, xc, .slice ab nb' db, .slice ae ne de⟩ _) hish.out.one wr.heap.size w1.heap.size (by omega) (size_alloc_le (Nat.le_refl _) _) (fun b hb => .inl (hGlh.out b hb).2) (MS.keep hish.out (fun k q1 q2 => Below.heap_alloc _ _ _ q2)) (by have := hlh.out; omega) (by have := hlh.out; omega) (size_alloc_le (by omega) _) ?_; intro v2 w2 hG2 hk2 ha2; have hG2h := Lib.hid hG2; have hk2h := Lib.hid hk2; clear hG2 hk2 ha2)
      have k2 := hk2h.out.mono (T := fun b => w.heap.size + 1 ≤ b) fun b _ e => (hGlh.out b e).1
      have zn : w1.heap.size ≤ (w1.alloc (.cells (cellsS ⟨xk, xt, xik, xiv, .slice ai ni di, xvk, xvv, .slice av nv' dv, xc, .slice ab nb' db, .slice ae ne de⟩) 92)).heap.size := hnxh.out.size
      have z2 := k2.size
      have bPn := heap_new hnxh.out bP1
      have bP2 := k2.bo bPn
      have hr2 := (h1.keep hnxh.out (fun _ f => f.elim)).keep k2 (fun b e => by omega)
      have K2 := one_new (K1.trans (hnxh.out.mono fun _ _ f => f.elim)) k2 (fun i e => by omega)
      obtain ⟨a6, d6, e6, _⟩ := hG2h.out.len
      have hlen : (l ++ [st]).length = j + 1 := by simp [hlh.out]
      rw [hlen] at e6
      have hBn : Bk w br p c s #[.slice a1 nv d1, .slice a2 na d2, .slice a3 nb d3] (j + 1) v2 w2 := ⟨l ++ [st], a6, d6, q', e6, hlen, K2, hr2, by rw [Nat.add_mul]; omega, bP2, hG2h.out, by rw [sizesS_snoc, Nat.add_mul]; omega⟩
      have hBh := Lib.hid hBn
      clear hBn hlen e6 K2 hr2 bP2 bPn k2
      go_roundw
      case rel => exact ⟨j + 1, by omega, by go_num, hBh.out⟩
      case measure => simp [intOf]; omega
    · have hjn : j = n := by omega
      subst hjn
      have hmul : j * c ≤ 4 * c := Nat.mul_le_mul_right _ hn
      have hmul2 : j * s ≤ 4 * s := Nat.mul_le_mul_right _ hn
      have hS2 := hGh.out.sts
      have hS3 := Lib.hid (hS2.mono (lo' := w.heap.size) (hi' := wr.heap.size) (by omega) (Nat.le_refl _))
      have hlq := hlh.out
      clear hS2 hlt
      subst hlq
      go_wp2
      go_ret
      exact ⟨a, dd, l, q, rfl, K, hr, by omega, hS3.out, by omega⟩
end Go.Proofs.YtckikiaockkmbaaDoor.DrawB
