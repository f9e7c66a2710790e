/- A law for a region that draws its order and ends in a tail (stores, assignments) that waits for all the rest: a condition S on the world holds behind every operation ahead of that tail, so what only reads may be taken first. No program in sight. -/
import Derived.StillTailTactics
import Derived.Deep.RegionHeld
import Derived.WalkKit
import Derived.Laws.Rows
namespace Go.Proofs.YtckikiaockkmbaaDoor
open Go
section
variable {P : Program} {ops : Array Oper} {Q : Exit → Act → World → Prop} {md : Region.Mode} {S : World → Prop} {k : Nat}
/-- whatever order is drawn; S is owed as long as number k has not come -/
def AnyK (P : Program) (md : Region.Mode) (ops : Array Oper) (Q : Exit → Act → World → Prop) (S : World → Prop) (k : Nat) : Nat → Array Bool → Act → World → Prop
  | 0, listed, a, w => Region.ready md ops listed = [] ∧ Q .normal a w
  | f + 1, listed, a, w => (Region.ready md ops listed = [] → Q .normal a w) ∧ ∀ i ∈ Region.ready md ops listed, wpOp P ops Q i (fun a' w' => ((listed.setIfInBounds i true).getD k true = false → S w') ∧ AnyK P md ops Q S k f (listed.setIfInBounds i true) a' w') a w
theorem AnyK.any : ∀ (f : Nat) (listed : Array Bool) (a : Act) (w : World), AnyK P md ops Q S k f listed a w → wpAny P md ops Q f listed a w
  | 0, _, _, _, h => h
  | f + 1, _, _, _, h => ⟨h.1, fun i hi => wpOp_mono (fun a' w' h' => AnyK.any f _ a' w' h'.2) (h.2 i hi)⟩
theorem not_k {i j : Nat} {listed : Array Bool} (hw : Region.waitsFor md ops k i = true) (hi : i ∈ Region.ready md ops listed) (hj : j ∈ Region.ready md ops listed) : j ≠ k := by
  rintro rfl
  obtain ⟨oj, hoj, e, he, hb, hon⟩ := Region.waitsFor_spec hw
  obtain ⟨_, o', ho', hall⟩ := mem_ready.1 hj
  have : o' = oj := Option.some.inj (ho'.symm.trans hoj)
  subst this
  have h2 := hall e he hb
  rw [hon, getD_both (mem_ready.1 hi).1] at h2
  cases h2
theorem set_other {i : Nat} {listed : Array Bool} (h : (listed.setIfInBounds i true).getD k true = false) : listed.getD k true = false := by
  by_cases e : i = k
  · subst e
    rcases Nat.lt_or_ge i listed.size with h' | h'
    · simp [h'] at h
    · simp [h'] at h
  · rwa [getD_set_ne true e] at h
theorem AnyK.first {i : Nat} {oi : Oper} {v : Value} {S0 : World → Prop} (hi : ops[i]? = some oi) (hsel : ∀ (j : Nat) (o : Oper) cs b, ops[j]? = some o → o.op ≠ .select cs b)
    (hQ : ∀ c a w, Q (.panic c) (a.put oi.dst v) w → Q (.panic c) a w) (hw : (∀ w, S0 w) ∨ (S0 = S ∧ Region.waitsFor md ops k i = true)) (hik : i ≠ k) : ∀ (f : Nat) (listed : Array Bool) (a : Act) (w : World),
      (∀ j oj, ops[j]? = some oj → j ≠ i → listed.getD j true = false → (∀ e ∈ oj.after, Region.binds md e = true → e.on ≠ i) → oi.apart ops oj = true) →
      i ∈ Region.ready md ops listed → YieldsIf P ops S0 oi v a → S0 w → (listed.getD k true = false → S w) → ((∀ w, S0 w) ∨ listed.getD k true = false) → AnyK P md ops Q S k f (listed.setIfInBounds i true) (a.put oi.dst v) w → AnyK P md ops Q S k (f + 1) listed a w
  | f, listed, a, w, hfree, hr, hy, hS0, hS, hk, H => by
    refine ⟨fun h => (by rw [h] at hr; cases hr), fun j hj => ?_⟩
    by_cases hji : j = i
    · subst hji; exact hy.wpOp hi hS0 ⟨fun h => hS (set_other h), H⟩
    have hin := ready_mono hj hji
    match f, H with
    | 0, H => rw [H.1] at hin; cases hin
    | f + 1, H =>
      obtain ⟨hjun, oj, hoj, hall⟩ := mem_ready.1 hj
      have hnot : ∀ e ∈ oj.after, Region.binds md e = true → e.on ≠ i := fun e he hb heq => by
        have h1 := hall e he hb
        rw [heq, getD_both (mem_ready.1 hr).1] at h1
        cases h1
      refine wpOp_mono (fun a' w' h3 => ?_) (wpOp_putIf hoj (hfree j oj hoj hji hjun hnot) (fun cs b => hsel i oi cs b hi) (fun cs b => hsel j oj cs b hoj) hQ hy (H.2 j hin))
      have hSw : (listed.setIfInBounds j true).getD k true = false → S w' := fun h => h3.2.1 (by rw [Array.setIfInBounds_comm _ _ (Ne.symm hji), getD_set_ne true hik]; exact h)
      have hjk : (∀ w, S0 w) ∨ (listed.setIfInBounds j true).getD k true = false := by
        rcases hw with hw | hw
        · exact .inl hw
        · rcases hk with hk | hk
          · exact .inl hk
          · exact .inr (by rw [getD_set_ne true (not_k hw.2 hr hj)]; exact hk)
      have hS0' : S0 w' := by
        rcases hjk with h | h
        · exact h w'
        · rcases hw with hw | hw
          · exact hw w'
          · rw [hw.1]; exact hSw h
      refine ⟨hSw, AnyK.first hi hsel hQ hw hik f (listed.setIfInBounds j true) a' w' ?_ (ready_mono hr (Ne.symm hji)) h3.1 hS0' hSw hjk ?_⟩
      · intro q oq hq hqi hun hno
        refine hfree q oq hq hqi ?_ hno
        by_cases e : j = q
        · subst e; exact hjun
        · rw [getD_set_ne true e] at hun; exact hun
      · rw [Array.setIfInBounds_comm _ _ hji]; exact h3.2.2
/-- number i, which reads what S tells of, is taken first -/
theorem AnyK.take {i : Nat} {oi : Oper} {v : Value} {f : Nat} {listed : Array Bool} {a : Act} {w : World} (hi : ops[i]? = some oi) (hs : Region.noSelect ops = true) (hf : Region.free md ops listed i = true)
    (hr : (Region.ready md ops listed).contains i = true) (hw : (Region.waitsFor md ops k i && !(listed.getD k true) && !(i == k)) = true) (hQ : ∀ c a w, Q (.panic c) (a.put oi.dst v) w → Q (.panic c) a w) (hy : YieldsIf P ops S oi v a) (hS : S w)
    (h : AnyK P md ops Q S k f (listed.setIfInBounds i true) (a.put oi.dst v) w) : AnyK P md ops Q S k (f + 1) listed a w := by
  simp only [Bool.and_eq_true, Bool.not_eq_true', beq_eq_false_iff_ne] at hw
  exact AnyK.first hi (Region.noSelect_spec hs) hQ (.inr ⟨rfl, hw.1.1⟩) hw.2 f listed a w (Region.free_spec hi hf) (by simpa using hr) hy hS (fun _ => hS) (.inr hw.1.2) h
/-- number i, which yields in whatever world, is taken first -/
theorem AnyK.takeW {i : Nat} {oi : Oper} {v : Value} {f : Nat} {listed : Array Bool} {a : Act} {w : World} (hi : ops[i]? = some oi) (hs : Region.noSelect ops = true) (hf : Region.free md ops listed i = true)
    (hr : (Region.ready md ops listed).contains i = true) (hik : (i == k) = false) (hQ : ∀ c a w, Q (.panic c) (a.put oi.dst v) w → Q (.panic c) a w) (hy : YieldsIf P ops (fun _ => True) oi v a) (hS : S w)
    (h : AnyK P md ops Q S k f (listed.setIfInBounds i true) (a.put oi.dst v) w) : AnyK P md ops Q S k (f + 1) listed a w :=
  AnyK.first hi (Region.noSelect_spec hs) hQ (.inl fun _ => trivial) (by simpa using hik) f listed a w (Region.free_spec hi hf) (by simpa using hr) hy trivial (fun _ => hS) (.inl fun _ => trivial) h
/-- number i is all that can come -/
theorem AnyK.step {i : Nat} {o : Oper} {f : Nat} {listed : Array Bool} {a : Act} {w : World} (hr : Region.ready md ops listed = [i]) (ho : ops[i]? = some o)
    (h : ∀ K' : Act → World → Prop, Shut (∀ a w, S w → (S w → AnyK P md ops Q S k f (listed.setIfInBounds i true) a w) → K' a w) → if Region.wanted o (yielded ops a.tmps) = true then Oper.wp P o a w K' Q else K' (a.put o.dst undef) w) :
    AnyK P md ops Q S k (f + 1) listed a w := by
  refine ⟨fun h0 => (by rw [hr] at h0; cases h0), fun j hj => ?_⟩
  rw [hr, List.mem_singleton] at hj
  subst hj
  exact wpOp_step ho (fun K' hK => h K' (fun a w hS hW => hK a w ⟨fun _ => hS, hW hS⟩))
/-- two may come -/
theorem AnyK.two {i j : Nat} {oi oj : Oper} {f : Nat} {listed : Array Bool} {a : Act} {w : World} (hr : Region.ready md ops listed = [i, j]) (hi : ops[i]? = some oi) (hj : ops[j]? = some oj)
    (h1 : ∀ K' : Act → World → Prop, Shut (∀ a w, S w → (S w → AnyK P md ops Q S k f (listed.setIfInBounds i true) a w) → K' a w) → if Region.wanted oi (yielded ops a.tmps) = true then Oper.wp P oi a w K' Q else K' (a.put oi.dst undef) w)
    (h2 : ∀ K' : Act → World → Prop, Shut (∀ a w, S w → (S w → AnyK P md ops Q S k f (listed.setIfInBounds j true) a w) → K' a w) → if Region.wanted oj (yielded ops a.tmps) = true then Oper.wp P oj a w K' Q else K' (a.put oj.dst undef) w) :
    AnyK P md ops Q S k (f + 1) listed a w := by
  refine ⟨fun h0 => (by rw [hr] at h0; cases h0), fun q hq => ?_⟩
  rw [hr, List.mem_cons, List.mem_singleton] at hq
  rcases hq with rfl | rfl
  · exact wpOp_step hi (fun K' hK => h1 K' (fun a w hS hW => hK a w ⟨fun _ => hS, hW hS⟩))
  · exact wpOp_step hj (fun K' hK => h2 K' (fun a w hS hW => hK a w ⟨fun _ => hS, hW hS⟩))
theorem set_done {q : Nat} {listed : Array Bool} (h : q = k ∨ listed.getD k true = true) : (listed.setIfInBounds q true).getD k true = true := by
  cases e : (listed.setIfInBounds q true).getD k true with
  | true => rfl
  | false =>
    rcases h with h | h
    · subst h
      rcases Nat.lt_or_ge q listed.size with h' | h'
      · simp [h'] at e
      · simp [h'] at e
    · rw [set_other e] at h; cases h
theorem AnyK.seq : ∀ (l : List Oper) (q : Nat) (listed : Array Bool) (a : Act) (w : World), (q = k ∨ listed.getD k true = true) → (∀ j, l[j]? = ops[q + j]?) → Region.seqB md ops l.length q listed = true → wpList P ops Q l a w → AnyK P md ops Q S k l.length listed a w
  | [], _, _, _, _, _, _, hB, h => ⟨by simpa [Region.seqB] using hB, h⟩
  | o :: l, q, listed, a, w, hk, hl, hB, h => by
    have h0 : ops[q]? = some o := by simpa using (hl 0).symm
    simp only [List.length_cons, Region.seqB, Bool.and_eq_true, decide_eq_true_eq] at hB
    refine ⟨fun h1 => (by rw [hB.1] at h1; cases h1), fun i hi => ?_⟩
    rw [hB.1, List.mem_singleton] at hi
    subst hi
    have hw : wpOp P ops Q i (wpList P ops Q l) a w := by unfold wpOp; simp only [h0]; exact h
    have hd := set_done hk
    exact wpOp_mono (fun a' w' h' => ⟨fun hn => (by rw [hd] at hn; cases hn), AnyK.seq l (i + 1) _ a' w' (.inr hd) (fun j => by have := hl (j + 1); simpa [Nat.add_assoc, Nat.add_comm 1 j] using this) hB.2 h'⟩) hw
/-- the tail, in its order -/
theorem AnyK.last {listed : Array Bool} {a : Act} {w : World} (hB : Region.seqB md ops (ops.size - k) k listed = true) (h : wpList P ops Q (ops.toList.drop k) a w) : AnyK P md ops Q S k (ops.size - k) listed a w := by
  have hl : (ops.toList.drop k).length = ops.size - k := by simp
  rw [← hl] at hB ⊢
  exact AnyK.seq _ k listed a w (.inl rfl) (fun j => by simp [List.getElem?_drop]) hB h
theorem wp_region_tail {id : Nat} {a : Act} {w : World} (hm : P.follows .mixedOrders = true) (hS : S w.drew)
    (h : S w.drew → AnyK P .any ops Q S k ops.size (Array.replicate ops.size false) a w.drew) : (Code.region id ops true).wp P Q a w :=
  wp_region_any hm (AnyK.any _ _ _ _ (h hS))
end
theorem results_cell_tmp {P : Program} {fn : Func} {p q : Tmp} {ty : TypeId} (h : fn.results = #[.cell p ty, .tmp q]) (tmps : Array Value) (w : World) (g : Nat) (t : TypeId) (cs : Array Value) (fr : Nat × Nat) (d : TypeDesc) (u : Value)
    (hp : tmps.getD p undef = .pointer (some ⟨g, 0, none⟩)) (hq : tmps.getD q undef = u) (hg : w.heap[g]? = some (.cells cs t fr))
    (hu : P.underlying ty = some d) (hd : (match d with | .struct _ | .array _ _ => true | _ => false) = true) (hi : (P.info? ty).map (·.size) = some cs.size) :
    (results fn tmps).run P w = .ok (.tuple #[.agg cs, u]) w := by
  have hp' : tmps[p]?.getD undef = .pointer (some ⟨g, 0, none⟩) := by simpa using hp
  have hq' : tmps[q]?.getD undef = u := by simpa using hq
  simp [results, h, hp', hq', asAddr, run_loadVar_row w g t ty cs fr d hg hu hd hi]
theorem results_cell_tmp2 {P : Program} {fn : Func} {p q q' : Tmp} {ty : TypeId} (h : fn.results = #[.cell p ty, .tmp q, .tmp q']) (tmps : Array Value) (w : World) (g : Nat) (t : TypeId) (cs : Array Value) (fr : Nat × Nat) (d : TypeDesc) (u u' : Value)
    (hp : tmps.getD p undef = .pointer (some ⟨g, 0, none⟩)) (hq : tmps.getD q undef = u) (hq2 : tmps.getD q' undef = u') (hg : w.heap[g]? = some (.cells cs t fr))
    (hu : P.underlying ty = some d) (hd : (match d with | .struct _ | .array _ _ => true | _ => false) = true) (hi : (P.info? ty).map (·.size) = some cs.size) :
    (results fn tmps).run P w = .ok (.tuple #[.agg cs, u, u']) w := by
  have hp' : tmps[p]?.getD undef = .pointer (some ⟨g, 0, none⟩) := by simpa using hp
  have hq' : tmps[q]?.getD undef = u := by simpa using hq
  have hq2' : tmps[q']?.getD undef = u' := by simpa using hq2
  simp [results, h, hp', hq', hq2', asAddr, run_loadVar_row w g t ty cs fr d hg hu hd hi]
end Go.Proofs.YtckikiaockkmbaaDoor
