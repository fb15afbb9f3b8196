/- The lengths of rows, and how a row is drawn. No conditions. -/
import Derived.Test.YtdhcgobkkgchpaaVTellB
namespace Go.Proofs.Ytdhcgobkkgchpaa.Tell
open Go.RowKit Go.Proofs.Ytdhcgobkkgchpaa.CAll Go.Proofs.YtdhcgobkkgchpaaW.PrintWords Go.Proofs.YtdhcgobkkgchpaaW.PrintLast Go.Proofs.YtdhcgobkkgchpaaW.PrintMore Go.Proofs.Ytdhcgobkkgchpaa.Math
set_option linter.unusedVariables false
set_option linter.unusedSimpArgs false

theorem dirR_len {l0 l1 : List Int} (h0 : l0.length = 24) (h1 : l1.length = 24) : (dirR l0 l1).length = 24 := by
 obtain ⟨f1, f2, f3, f4, f5, f6, f7, f8, f9, f10, f11, f12, f13, f14, f15, f16, f17, f18, f19, f20, f21, f22, f23, f24, rfl⟩ := row24 h0
 obtain ⟨g1, g2, g3, g4, g5, g6, g7, g8, g9, g10, g11, g12, g13, g14, g15, g16, g17, g18, g19, g20, g21, g22, g23, g24, rfl⟩ := row24 h1
 unfold dirR
 rw [dir_spec]
 rfl
theorem uniR_len {l0 l1 : List Int} (h0 : l0.length = 24) (h1 : l1.length = 24) : (uniR l0 l1).length = 24 := by
 obtain ⟨f1, f2, f3, f4, f5, f6, f7, f8, f9, f10, f11, f12, f13, f14, f15, f16, f17, f18, f19, f20, f21, f22, f23, f24, rfl⟩ := row24 h0
 obtain ⟨g1, g2, g3, g4, g5, g6, g7, g8, g9, g10, g11, g12, g13, g14, g15, g16, g17, g18, g19, g20, g21, g22, g23, g24, rfl⟩ := row24 h1
 unfold uniR
 rw [uni_spec]
 rfl
theorem tV_len (l0 l1 : List Int) : (tV l0 l1).1.length ≤ 24 := by
 unfold tV
 cases h : (smB l0 && smB l1) with
 | false => simp
 | true =>
  have hh := Bool.and_eq_true_iff.1 h
  simp only [if_true]
  exact Nat.le_of_eq (dirR_len (sm_len hh.1) (sm_len hh.2))
theorem uV_len (l0 l1 : List Int) : (uV l0 l1).1.length ≤ 24 := by
 unfold uV
 cases h : (smB l0 && smB l1) with
 | false => simp
 | true =>
  have hh := Bool.and_eq_true_iff.1 h
  simp only [if_true]
  exact Nat.le_of_eq (uniR_len (sm_len hh.1) (sm_len hh.2))
theorem nrow_small {a : Int} (h : 0 ≤ a ∧ a < 8) : smB (nrow a) = true := by
 rcases (show a = 0 ∨ a = 1 ∨ a = 2 ∨ a = 3 ∨ a = 4 ∨ a = 5 ∨ a = 6 ∨ a = 7 by omega) with rfl | rfl | rfl | rfl | rfl | rfl | rfl | rfl <;> decide


end Go.Proofs.Ytdhcgobkkgchpaa.Tell
