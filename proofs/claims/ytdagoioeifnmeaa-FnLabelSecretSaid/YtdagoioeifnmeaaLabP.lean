/- Labels: the plain laws of the lattice of four labels. -/
import Derived.Test.YtdagoioeifnmeaaLab
namespace Go.Proofs.Ytdagoioeifnmeaa.Lab
theorem joinL_comm (a b : Int) : joinL a b = joinL b a := by
  cases ha : okL a <;> cases hb : okL b
  · simp [joinL, ha, hb]
  · simp [joinL, ha]
  · simp [joinL, hb]
  · obtain rfl | rfl | rfl | rfl := okL_cases ha <;> obtain rfl | rfl | rfl | rfl := okL_cases hb <;> rfl
theorem meetL_comm (a b : Int) : meetL a b = meetL b a := by
  cases ha : okL a <;> cases hb : okL b
  · simp [meetL, ha, hb]
  · simp [meetL, ha]
  · simp [meetL, hb]
  · obtain rfl | rfl | rfl | rfl := okL_cases ha <;> obtain rfl | rfl | rfl | rfl := okL_cases hb <;> rfl
theorem lub {a b c : Int} (ha : okL a = true) (hb : okL b = true) (hc : okL c = true) : leL (joinL a b) c = (leL a c && leL b c) := by
  obtain rfl | rfl | rfl | rfl := okL_cases ha <;> obtain rfl | rfl | rfl | rfl := okL_cases hb <;> obtain rfl | rfl | rfl | rfl := okL_cases hc <;> rfl
theorem glb {a b c : Int} (ha : okL a = true) (hb : okL b = true) (hc : okL c = true) : leL c (meetL a b) = (leL c a && leL c b) := by
  obtain rfl | rfl | rfl | rfl := okL_cases ha <;> obtain rfl | rfl | rfl | rfl := okL_cases hb <;> obtain rfl | rfl | rfl | rfl := okL_cases hc <;> rfl
theorem leL_refl (a : Int) : leL a a = okL a := by
  cases ha : okL a
  · simp [leL, ha]
  · obtain rfl | rfl | rfl | rfl := okL_cases ha <;> rfl
theorem leL_anti {a b : Int} (h : leL a b = true) (h' : leL b a = true) : a = b := by
  have ha : okL a = true := by simp only [leL, Bool.and_eq_true] at h; exact h.1.1
  have hb : okL b = true := by simp only [leL, Bool.and_eq_true] at h; exact h.1.2
  revert h h'
  obtain rfl | rfl | rfl | rfl := okL_cases ha <;> obtain rfl | rfl | rfl | rfl := okL_cases hb <;> decide
theorem leL_trans {a b c : Int} (h : leL a b = true) (h' : leL b c = true) : leL a c = true := by
  have ha : okL a = true := by simp only [leL, Bool.and_eq_true] at h; exact h.1.1
  have hb : okL b = true := by simp only [leL, Bool.and_eq_true] at h; exact h.1.2
  have hc : okL c = true := by simp only [leL, Bool.and_eq_true] at h'; exact h'.1.2
  revert h h'
  obtain rfl | rfl | rfl | rfl := okL_cases ha <;> obtain rfl | rfl | rfl | rfl := okL_cases hb <;> obtain rfl | rfl | rfl | rfl := okL_cases hc <;> decide
theorem leL_join (a b : Int) : leL a b = (okL a && okL b && (joinL a b == b)) := by
  cases ha : okL a
  · simp [leL, ha]
  · cases hb : okL b
    · simp [leL, hb]
    · obtain rfl | rfl | rfl | rfl := okL_cases ha <;> obtain rfl | rfl | rfl | rfl := okL_cases hb <;> rfl
theorem okL_join (a b : Int) : okL (joinL a b) = true := by
  cases ha : okL a
  · simp [joinL, ha]; rfl
  · cases hb : okL b
    · simp [joinL, hb]; rfl
    · obtain rfl | rfl | rfl | rfl := okL_cases ha <;> obtain rfl | rfl | rfl | rfl := okL_cases hb <;> rfl
theorem secret_join {a b : Int} (ha : okL a = true) (hb : okL b = true) : secretB (joinL a b) = (secretB a || secretB b) := by
  obtain rfl | rfl | rfl | rfl := okL_cases ha <;> obtain rfl | rfl | rfl | rfl := okL_cases hb <;> rfl
theorem trusted_join {a b : Int} (ha : okL a = true) (hb : okL b = true) : trustedB (joinL a b) = (trustedB a && trustedB b) := by
  obtain rfl | rfl | rfl | rfl := okL_cases ha <;> obtain rfl | rfl | rfl | rfl := okL_cases hb <;> rfl
theorem distr {a b c : Int} (ha : okL a = true) (hb : okL b = true) (hc : okL c = true) : meetL (joinL a b) (joinL a c) = joinL a (meetL b c) := by
  obtain rfl | rfl | rfl | rfl := okL_cases ha <;> obtain rfl | rfl | rfl | rfl := okL_cases hb <;> obtain rfl | rfl | rfl | rfl := okL_cases hc <;> rfl
theorem absorb {a b : Int} (ha : okL a = true) (hb : okL b = true) : joinL a (meetL a b) = a := by
  obtain rfl | rfl | rfl | rfl := okL_cases ha <;> obtain rfl | rfl | rfl | rfl := okL_cases hb <;> rfl
end Go.Proofs.Ytdagoioeifnmeaa.Lab
