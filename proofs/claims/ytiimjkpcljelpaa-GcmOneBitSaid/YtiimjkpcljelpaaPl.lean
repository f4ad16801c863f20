/- The plain laws: what is sealed, and what is opened. -/
import Derived.Test.YtiimjkpcljelpaaPa
set_option maxRecDepth 10000
open Go.RowKit Go.Eng
namespace Go.Proofs.Ytiimjkpcljelpaa
theorem sealF_take (E : List B8 → List B8) (hE : ∀ x, (E x).length = 16) (f aad b : List B8) : (sealF E f aad b).take b.length = textL E f b := by
  rw [sealF, List.take_append_of_le_length (by rw [textL_len E hE]; exact Nat.le_refl _), List.take_of_length_le (by rw [textL_len E hE]; exact Nat.le_refl _)]
theorem sealF_drop (E : List B8 → List B8) (hE : ∀ x, (E x).length = 16) (f aad b : List B8) : (sealF E f aad b).drop b.length = tagL E f aad (textL E f b) := by
  rw [sealF, ← textL_len E hE f b, List.drop_left]
theorem sealL_take (E : List B8 → List B8) (hE : ∀ x, (E x).length = 16) (iv aad b : List B8) : (sealL E iv aad b).take b.length = textL E (firstL E iv) b := sealF_take E hE _ _ _
theorem aad_law (E : List B8 → List B8) (hE : ∀ x, (E x).length = 16) (iv aad oth b : List B8) : (decide ((openL E iv oth (sealL E iv aad b)).2 = 0) == decide (sealL E iv aad b = sealL E iv oth b)) = true := by
  rw [beq_iff_eq, decide_eq_decide]
  unfold openL sealL
  generalize firstL E iv = f
  have hl : (sealF E f aad b).length - 16 = b.length := by rw [sealF_len E hE]; omega
  rw [openF, if_neg (by rw [sealF_len E hE]; omega), hl, sealF_take E hE, sealF_drop E hE]
  by_cases h : tagL E f aad (textL E f b) = tagL E f oth (textL E f b)
  · rw [if_pos h, sealF, sealF, h]; simp
  · rw [if_neg h]
    constructor
    · intro h'; cases h'
    · intro h'
      rw [sealF, sealF] at h'
      exact absurd (List.append_cancel_left h') h
end Go.Proofs.Ytiimjkpcljelpaa
