/- Plain facts on programs and expressions, for the laws that draw them. No program in sight; no conditions. -/
import Derived.Test.YtckikiaockkmbaaDoorYFlowP
namespace Go.Proofs.YtckikiaockkmbaaDoor.LawT
open Go.RowKit Kit Val
set_option linter.unusedVariables false
mutual
theorem shp_up (nv na : Nat) : ∀ (e : Ex) (d : Nat), shp nv na e d = true → shp nv na e (d + 1) = true
  | .node k v ks, d, h => by
    simp only [shp, Bool.and_eq_true, decide_eq_true_eq] at h ⊢
    obtain ⟨⟨⟨⟨⟨h1, h2⟩, h3⟩, h4⟩, h5⟩, h6⟩ := h
    have h7 := shps_up nv na ks (d - 1) h5
    rw [show d - 1 + 1 = d + 1 - 1 by omega] at h7
    exact ⟨⟨⟨⟨⟨by omega, h2⟩, h3⟩, h4⟩, h7⟩, h6⟩
theorem shps_up (nv na : Nat) : ∀ (l : List Ex) (d : Nat), shps nv na l d = true → shps nv na l (d + 1) = true
  | [], _, _ => rfl
  | e :: es, d, h => by
    simp only [shps, Bool.and_eq_true] at h ⊢
    exact ⟨shp_up nv na e d h.1, shps_up nv na es d h.2⟩
end
theorem shps_get (nv na d : Nat) {l : List Ex} (h : shps nv na l d = true) (j : Nat) (hj : j < l.length) : shp nv na l[j] d = true := by
  cases hb : shp nv na l[j] d
  · rw [shps_bad nv na l d j hj hb] at h; cases h
  · rfl
end Go.Proofs.YtckikiaockkmbaaDoor.LawT
