/- A program of one statement, and what is compiled of it. No program in sight but for its types; no conditions. -/
import Derived.Test.YtckikiaockkmbaaVCmpR
import Derived.Test.YtckikiaockkmbaaVCmpP
namespace Go.Proofs.Ytckikiaockkmbaa.LawC
open Go.RowKit Kit Val CmpP
set_option linter.unusedVariables false
/-- variable 0 becomes an expression -/
def stA (k v : Int) (ks : List Ex) : St := .node 1 0 (.node 0 0 []) (.node k v ks) 0 [] []
theorem one_stmt {w : World} {lo : Nat} {k v : Int} {s : Value} {ks : List Ex} (hs : KidsR w lo w.heap.size s ks) (hlo : lo ≤ w.heap.size) (T : TypeId) :
    StsR (w.alloc (.cells #[.int .i64 1, .int .i64 0, .int .i64 0, .int .i64 0, .slice none 0 0, .int .i64 k, .int .i64 v, s, .int .i64 0, .slice none 0 0, .slice none 0 0] T)) lo (w.heap.size + 1) (.slice (some ⟨w.heap.size, 0, none⟩) 1 1) [stA k v ks] := by
  have bN := alloc_heap w (.cells #[.int .i64 1, .int .i64 0, .int .i64 0, .int .i64 0, .slice none 0 0, .int .i64 k, .int .i64 v, s, .int .i64 0, .slice none 0 0, .slice none 0 0] T)
  have kA : New w (w.alloc (.cells #[.int .i64 1, .int .i64 0, .int .i64 0, .int .i64 0, .slice none 0 0, .int .i64 k, .int .i64 v, s, .int .i64 0, .slice none 0 0, .slice none 0 0] T)) := (Kp.refl _ _).alloc _
  have hc : ∀ t, (w.alloc (.cells #[.int .i64 1, .int .i64 0, .int .i64 0, .int .i64 0, .slice none 0 0, .int .i64 k, .int .i64 v, s, .int .i64 0, .slice none 0 0, .slice none 0 0] T)).cell? ⟨w.heap.size, t, none⟩ = (#[.int .i64 1, .int .i64 0, .int .i64 0, .int .i64 0, .slice none 0 0, .int .i64 k, .int .i64 v, s, .int .i64 0, .slice none 0 0, .slice none 0 0] : Array Value)[t]? := fun t => cell_of_heap bN t
  have e0 : ∀ i, i < [stA k v ks].length → i = 0 := fun i h => by simp at h; omega
  refine .cons w.heap.size 0 1 [stA k v ks] (fun _ => .slice none 0 0) (fun _ => s) (fun _ => .slice none 0 0) (fun _ => .slice none 0 0) (Nat.succ_pos _) hlo (Nat.lt_succ_self _) (Nat.le_refl _) (by decide) ?_ ?_ ?_ ?_ ?_ ?_ ?_ ?_ ?_ ?_ ?_ ?_ ?_ ?_ ?_
  all_goals intro i h
  all_goals obtain rfl := e0 i h
  · exact hc 0
  · exact hc 1
  · exact hc 2
  · exact hc 3
  · exact hc 4
  · exact hc 5
  · exact hc 6
  · exact hc 7
  · exact hc 8
  · exact hc 9
  · exact hc 10
  · exact .nil _ _
  · exact (hs.new (Nat.le_refl _) kA).mono (Nat.le_refl _) (Nat.le_succ _)
  · exact .nil _ _
  · exact .nil _ _
theorem csts_one (k v : Int) (ks : List Ex) : csts [stA k v ks] 0 0 = cex (.node k v ks) 0 ++ [⟨3, 0, 0, 0, 0⟩] := by
  simp [csts, stA, cst]
theorem fine_one {xa xb : List Int} {k v : Int} {ks : List Ex} (h : exprB xa xb (.node k v ks) = true) : fine xa xb [stA k v ks] = true := by
  simp only [exprB, Bool.and_eq_true] at h
  have hr := EvP.right_shp h.2
  have hl := cex_len (.node k v ks) 0
  have hd : 1 ≤ xa.length := by have := h.1; simp only [declB, Bool.and_eq_true, decide_eq_true_eq] at this; omega
  have hd2 : (0 : Int) < xa.length := by omega
  have hp : partsB (stA k v ks) = true := by rfl
  have hb : stB xa.length xb.length (stA k v ks) 5 = true := by
    have hp2 : partsB (St.node 1 0 (Ex.node 0 0 []) (Ex.node k v ks) 0 [] []) = true := hp
    have hd3 : 0 < xa.length := by omega
    simp only [stA, stB, hp2, h.2]
    simp
    exact hd3
  have hz : stsZ [stA k v ks] 5 ≤ 60 := by
    have : stsZ [stA k v ks] 5 = 1 := by simp [stsZ, stA, stZ]
    omega
  simp only [fine, progB, Bool.and_eq_true, decide_eq_true_eq, csts_one, List.length_append, List.length_cons, List.length_nil]
  refine ⟨⟨⟨h.1, ?_⟩, hz⟩, by omega⟩
  simp only [blB, hb, Bool.and_self]
theorem get_one {k v : Int} {ks : List Ex} {j : Nat} (h : j < (cex (.node k v ks) 0).length) (h2 : j < (csts [stA k v ks] 0 0 ++ [halt]).length) : (csts [stA k v ks] 0 0 ++ [halt])[j] = (cex (.node k v ks) 0)[j] := by
  have e : (csts [stA k v ks] 0 0 ++ [halt])[j]? = (cex (.node k v ks) 0)[j]? := by rw [csts_one, List.append_assoc, List.getElem?_append_left h]
  rw [List.getElem?_eq_getElem h2, List.getElem?_eq_getElem h] at e
  exact Option.some.inj e
end Go.Proofs.Ytckikiaockkmbaa.LawC
