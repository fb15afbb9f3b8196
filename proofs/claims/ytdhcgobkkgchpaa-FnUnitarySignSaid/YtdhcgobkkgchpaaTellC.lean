/- The inversions of rows of 24 small numbers: no program in sight. No conditions. -/
import Derived.Test.YtdhcgobkkgchpaaTellB
namespace Go.Proofs.Ytdhcgobkkgchpaa.Tell
open Go.RowKit Go.Proofs.Ytdhcgobkkgchpaa.CAll Go.Proofs.YtdhcgobkkgchpaaW.PrintWords Go.Proofs.YtdhcgobkkgchpaaW.PrintLast Go.Proofs.YtdhcgobkkgchpaaW.PrintMore Go.Proofs.Ytdhcgobkkgchpaa.Math
set_option linter.unusedVariables false
set_option linter.unusedSimpArgs false
set_option maxRecDepth 100000

set_option maxHeartbeats 4000000 in
theorem sums_val {f1 f2 f3 f4 f5 f6 f7 f8 f9 f10 f11 f12 f13 f14 f15 f16 f17 f18 f19 f20 f21 f22 f23 f24 : Int} (hb : ∀ x ∈ [f1, f2, f3, f4, f5, f6, f7, f8, f9, f10, f11, f12, f13, f14, f15, f16, f17, f18, f19, f20, f21, f22, f23, f24], -1000000 ≤ x ∧ x ≤ 1000000) : dirR [f1, f2, f3, f4, f5, f6, f7, f8, f9, f10, f11, f12, f13, f14, f15, f16, f17, f18, f19, f20, f21, f22, f23, f24] (nrow 1) = [f1, f1 + f2, f1 + f3, f1 + f2 + f4, f1 + f5, f1 + f2 + f3 + f6, f1 + f7, f1 + f2 + f4 + f8, f1 + f3 + f9, f1 + f2 + f5 + f10, f1 + f11, f1 + f2 + f3 + f4 + f6 + f12, f1 + f13, f1 + f2 + f7 + f14, f1 + f3 + f5 + f15, f1 + f2 + f4 + f8 + f16, f1 + f17, f1 + f2 + f3 + f6 + f9 + f18, f1 + f19, f1 + f2 + f4 + f5 + f10 + f20, f1 + f3 + f7 + f21, f1 + f2 + f11 + f22, f1 + f23, f1 + f2 + f3 + f4 + f6 + f8 + f12 + f24] := by
  have b1 := hb f1 (by simp)
  have b2 := hb f2 (by simp)
  have b3 := hb f3 (by simp)
  have b4 := hb f4 (by simp)
  have b5 := hb f5 (by simp)
  have b6 := hb f6 (by simp)
  have b7 := hb f7 (by simp)
  have b8 := hb f8 (by simp)
  have b9 := hb f9 (by simp)
  have b10 := hb f10 (by simp)
  have b11 := hb f11 (by simp)
  have b12 := hb f12 (by simp)
  have b13 := hb f13 (by simp)
  have b14 := hb f14 (by simp)
  have b15 := hb f15 (by simp)
  have b16 := hb f16 (by simp)
  have b17 := hb f17 (by simp)
  have b18 := hb f18 (by simp)
  have b19 := hb f19 (by simp)
  have b20 := hb f20 (by simp)
  have b21 := hb f21 (by simp)
  have b22 := hb f22 (by simp)
  have b23 := hb f23 (by simp)
  have b24 := hb f24 (by simp)
  clear hb
  unfold dirR
  rw [show nrow 1 = [1, 1, 1, 1, 1, 1, 1, 1, 1, 1, 1, 1, 1, 1, 1, 1, 1, 1, 1, 1, 1, 1, 1, 1] from by decide, dir_spec]
  simp only [Option.getD_some, List.cons.injEq, and_true]
  refine ⟨?_, ?_, ?_, ?_, ?_, ?_, ?_, ?_, ?_, ?_, ?_, ?_, ?_, ?_, ?_, ?_, ?_, ?_, ?_, ?_, ?_, ?_, ?_, ?_⟩
  all_goals first | (simp (disch := omega) only [w64]; omega) | (simp (disch := omega) only [w64]; done) | omega
set_option maxHeartbeats 4000000 in
theorem froms_val {f1 f2 f3 f4 f5 f6 f7 f8 f9 f10 f11 f12 f13 f14 f15 f16 f17 f18 f19 f20 f21 f22 f23 f24 : Int} (hb : ∀ x ∈ [f1, f2, f3, f4, f5, f6, f7, f8, f9, f10, f11, f12, f13, f14, f15, f16, f17, f18, f19, f20, f21, f22, f23, f24], -1000000 ≤ x ∧ x ≤ 1000000) : dirR [f1, f2, f3, f4, f5, f6, f7, f8, f9, f10, f11, f12, f13, f14, f15, f16, f17, f18, f19, f20, f21, f22, f23, f24] (nrow 6) = [f1, (-f1) + f2, (-f1) + f3, (-f2) + f4, (-f1) + f5, f1 + (-f2) + (-f3) + f6, (-f1) + f7, (-f4) + f8, (-f3) + f9, f1 + (-f2) + (-f5) + f10, (-f1) + f11, f2 + (-f4) + (-f6) + f12, (-f1) + f13, f1 + (-f2) + (-f7) + f14, f1 + (-f3) + (-f5) + f15, (-f8) + f16, (-f1) + f17, f3 + (-f6) + (-f9) + f18, (-f1) + f19, f2 + (-f4) + (-f10) + f20, f1 + (-f3) + (-f7) + f21, f1 + (-f2) + (-f11) + f22, (-f1) + f23, f4 + (-f8) + (-f12) + f24] := by
  have b1 := hb f1 (by simp)
  have b2 := hb f2 (by simp)
  have b3 := hb f3 (by simp)
  have b4 := hb f4 (by simp)
  have b5 := hb f5 (by simp)
  have b6 := hb f6 (by simp)
  have b7 := hb f7 (by simp)
  have b8 := hb f8 (by simp)
  have b9 := hb f9 (by simp)
  have b10 := hb f10 (by simp)
  have b11 := hb f11 (by simp)
  have b12 := hb f12 (by simp)
  have b13 := hb f13 (by simp)
  have b14 := hb f14 (by simp)
  have b15 := hb f15 (by simp)
  have b16 := hb f16 (by simp)
  have b17 := hb f17 (by simp)
  have b18 := hb f18 (by simp)
  have b19 := hb f19 (by simp)
  have b20 := hb f20 (by simp)
  have b21 := hb f21 (by simp)
  have b22 := hb f22 (by simp)
  have b23 := hb f23 (by simp)
  have b24 := hb f24 (by simp)
  clear hb
  unfold dirR
  rw [show nrow 6 = [1, (-1), (-1), 0, (-1), 1, (-1), 0, 0, 1, (-1), 0, (-1), 1, 1, 0, (-1), 0, (-1), 0, 1, 1, (-1), 0] from by decide, dir_spec]
  simp only [Option.getD_some, List.cons.injEq, and_true]
  refine ⟨?_, ?_, ?_, ?_, ?_, ?_, ?_, ?_, ?_, ?_, ?_, ?_, ?_, ?_, ?_, ?_, ?_, ?_, ?_, ?_, ?_, ?_, ?_, ?_⟩
  all_goals first | (simp (disch := omega) only [w64]; omega) | (simp (disch := omega) only [w64]; done) | omega
set_option maxHeartbeats 4000000 in
theorem rsum_val {f1 f2 f3 f4 f5 f6 f7 f8 f9 f10 f11 f12 f13 f14 f15 f16 f17 f18 f19 f20 f21 f22 f23 f24 : Int} (hb : ∀ x ∈ [f1, f2, f3, f4, f5, f6, f7, f8, f9, f10, f11, f12, f13, f14, f15, f16, f17, f18, f19, f20, f21, f22, f23, f24], -1000000 ≤ x ∧ x ≤ 1000000) : rsumR [f1, f2, f3, f4, f5, f6, f7, f8, f9, f10, f11, f12, f13, f14, f15, f16, f17, f18, f19, f20, f21, f22, f23, f24] = [f1, f2 + f1, f3 + f1 + f1, f4 + f2 + f1 + f1, f5 + f2 + f1 + f1 + f1, f6 + f3 + f2 + f1 + f1 + f1, f7 + f3 + f2 + f1 + f1 + f1 + f1, f8 + f4 + f2 + f2 + f1 + f1 + f1 + f1, f9 + f4 + f3 + f2 + f1 + f1 + f1 + f1 + f1, f10 + f5 + f3 + f2 + f2 + f1 + f1 + f1 + f1 + f1, f11 + f5 + f3 + f2 + f2 + f1 + f1 + f1 + f1 + f1 + f1, f12 + f6 + f4 + f3 + f2 + f2 + f1 + f1 + f1 + f1 + f1 + f1, f13 + f6 + f4 + f3 + f2 + f2 + f1 + f1 + f1 + f1 + f1 + f1 + f1, f14 + f7 + f4 + f3 + f2 + f2 + f2 + f1 + f1 + f1 + f1 + f1 + f1 + f1, f15 + f7 + f5 + f3 + f3 + f2 + f2 + f1 + f1 + f1 + f1 + f1 + f1 + f1 + f1, f16 + f8 + f5 + f4 + f3 + f2 + f2 + f2 + f1 + f1 + f1 + f1 + f1 + f1 + f1 + f1, f17 + f8 + f5 + f4 + f3 + f2 + f2 + f2 + f1 + f1 + f1 + f1 + f1 + f1 + f1 + f1 + f1, f18 + f9 + f6 + f4 + f3 + f3 + f2 + f2 + f2 + f1 + f1 + f1 + f1 + f1 + f1 + f1 + f1 + f1, f19 + f9 + f6 + f4 + f3 + f3 + f2 + f2 + f2 + f1 + f1 + f1 + f1 + f1 + f1 + f1 + f1 + f1 + f1, f20 + f10 + f6 + f5 + f4 + f3 + f2 + f2 + f2 + f2 + f1 + f1 + f1 + f1 + f1 + f1 + f1 + f1 + f1 + f1, f21 + f10 + f7 + f5 + f4 + f3 + f3 + f2 + f2 + f2 + f1 + f1 + f1 + f1 + f1 + f1 + f1 + f1 + f1 + f1 + f1, f22 + f11 + f7 + f5 + f4 + f3 + f3 + f2 + f2 + f2 + f2 + f1 + f1 + f1 + f1 + f1 + f1 + f1 + f1 + f1 + f1 + f1, f23 + f11 + f7 + f5 + f4 + f3 + f3 + f2 + f2 + f2 + f2 + f1 + f1 + f1 + f1 + f1 + f1 + f1 + f1 + f1 + f1 + f1 + f1, f24 + f12 + f8 + f6 + f4 + f4 + f3 + f3 + f2 + f2 + f2 + f2 + f1 + f1 + f1 + f1 + f1 + f1 + f1 + f1 + f1 + f1 + f1 + f1] := by
  have b1 := hb f1 (by simp)
  have b2 := hb f2 (by simp)
  have b3 := hb f3 (by simp)
  have b4 := hb f4 (by simp)
  have b5 := hb f5 (by simp)
  have b6 := hb f6 (by simp)
  have b7 := hb f7 (by simp)
  have b8 := hb f8 (by simp)
  have b9 := hb f9 (by simp)
  have b10 := hb f10 (by simp)
  have b11 := hb f11 (by simp)
  have b12 := hb f12 (by simp)
  have b13 := hb f13 (by simp)
  have b14 := hb f14 (by simp)
  have b15 := hb f15 (by simp)
  have b16 := hb f16 (by simp)
  have b17 := hb f17 (by simp)
  have b18 := hb f18 (by simp)
  have b19 := hb f19 (by simp)
  have b20 := hb f20 (by simp)
  have b21 := hb f21 (by simp)
  have b22 := hb f22 (by simp)
  have b23 := hb f23 (by simp)
  have b24 := hb f24 (by simp)
  clear hb
  unfold rsumR
  rw [rsum_spec]
  simp only [Option.getD_some, List.cons.injEq, and_true]
  refine ⟨?_, ?_, ?_, ?_, ?_, ?_, ?_, ?_, ?_, ?_, ?_, ?_, ?_, ?_, ?_, ?_, ?_, ?_, ?_, ?_, ?_, ?_, ?_, ?_⟩
  all_goals first | (simp (disch := omega) only [w64]; omega) | (simp (disch := omega) only [w64]; done) | omega
set_option maxHeartbeats 4000000 in
theorem frnd_val {f1 f2 f3 f4 f5 f6 f7 f8 f9 f10 f11 f12 f13 f14 f15 f16 f17 f18 f19 f20 f21 f22 f23 f24 : Int} (hb : ∀ x ∈ [f1, f2, f3, f4, f5, f6, f7, f8, f9, f10, f11, f12, f13, f14, f15, f16, f17, f18, f19, f20, f21, f22, f23, f24], -1000000 ≤ x ∧ x ≤ 1000000) : frndR [f1, f2, f3, f4, f5, f6, f7, f8, f9, f10, f11, f12, f13, f14, f15, f16, f17, f18, f19, f20, f21, f22, f23, f24] = [f1, f2 + (-f1), f3 + (-f1) + (-f1), f4 + (-f2) + (-f1), f5 + (-f2) + (-f1) + (-f1), f6 + (-f3) + (-f2) + (-f1) + f1, f7 + (-f3) + (-f2) + (-f1) + f1 + (-f1), f8 + (-f4) + (-f2) + (-f1) + f1 + (-f1), f9 + (-f4) + (-f3) + (-f1) + f1 + (-f1), f10 + (-f5) + (-f3) + (-f2) + f1 + (-f1) + f1, f11 + (-f5) + (-f3) + (-f2) + f1 + (-f1) + f1 + (-f1), f12 + (-f6) + (-f4) + (-f2) + f2 + (-f1) + f1 + (-f1), f13 + (-f6) + (-f4) + (-f2) + f2 + (-f1) + f1 + (-f1) + (-f1), f14 + (-f7) + (-f4) + (-f2) + f2 + (-f2) + f1 + (-f1) + (-f1) + f1, f15 + (-f7) + (-f5) + (-f3) + f2 + (-f2) + f1 + (-f1) + (-f1) + f1 + f1, f16 + (-f8) + (-f5) + (-f3) + f2 + (-f2) + f1 + (-f1) + (-f1) + f1 + f1, f17 + (-f8) + (-f5) + (-f3) + f2 + (-f2) + f1 + (-f1) + (-f1) + f1 + f1 + (-f1), f18 + (-f9) + (-f6) + (-f3) + f3 + (-f2) + f1 + (-f1) + (-f1) + f1 + f1 + (-f1), f19 + (-f9) + (-f6) + (-f3) + f3 + (-f2) + f1 + (-f1) + (-f1) + f1 + f1 + (-f1) + (-f1), f20 + (-f10) + (-f6) + (-f4) + f3 + (-f2) + f2 + (-f1) + (-f1) + f1 + f1 + (-f1) + (-f1), f21 + (-f10) + (-f7) + (-f4) + f3 + (-f3) + f2 + (-f1) + (-f1) + f1 + f1 + (-f1) + (-f1) + f1, f22 + (-f11) + (-f7) + (-f4) + f3 + (-f3) + f2 + (-f2) + (-f1) + f1 + f1 + (-f1) + (-f1) + f1 + f1, f23 + (-f11) + (-f7) + (-f4) + f3 + (-f3) + f2 + (-f2) + (-f1) + f1 + f1 + (-f1) + (-f1) + f1 + f1 + (-f1), f24 + (-f12) + (-f8) + (-f4) + f4 + (-f3) + f2 + (-f2) + (-f1) + f1 + f1 + (-f1) + (-f1) + f1 + f1 + (-f1)] := by
  have b1 := hb f1 (by simp)
  have b2 := hb f2 (by simp)
  have b3 := hb f3 (by simp)
  have b4 := hb f4 (by simp)
  have b5 := hb f5 (by simp)
  have b6 := hb f6 (by simp)
  have b7 := hb f7 (by simp)
  have b8 := hb f8 (by simp)
  have b9 := hb f9 (by simp)
  have b10 := hb f10 (by simp)
  have b11 := hb f11 (by simp)
  have b12 := hb f12 (by simp)
  have b13 := hb f13 (by simp)
  have b14 := hb f14 (by simp)
  have b15 := hb f15 (by simp)
  have b16 := hb f16 (by simp)
  have b17 := hb f17 (by simp)
  have b18 := hb f18 (by simp)
  have b19 := hb f19 (by simp)
  have b20 := hb f20 (by simp)
  have b21 := hb f21 (by simp)
  have b22 := hb f22 (by simp)
  have b23 := hb f23 (by simp)
  have b24 := hb f24 (by simp)
  clear hb
  unfold frndR
  rw [show nrow 6 = [1, (-1), (-1), 0, (-1), 1, (-1), 0, 0, 1, (-1), 0, (-1), 1, 1, 0, (-1), 0, (-1), 0, 1, 1, (-1), 0] from by decide, frnd_spec]
  simp only [Option.getD_some, List.cons.injEq, and_true]
  refine ⟨?_, ?_, ?_, ?_, ?_, ?_, ?_, ?_, ?_, ?_, ?_, ?_, ?_, ?_, ?_, ?_, ?_, ?_, ?_, ?_, ?_, ?_, ?_, ?_⟩
  all_goals first | (simp (disch := omega) only [w64]; omega) | (simp (disch := omega) only [w64]; done) | omega
set_option maxHeartbeats 4000000 in
theorem over_val {f1 f2 f3 f4 f5 f6 f7 f8 f9 f10 f11 f12 f13 f14 f15 f16 f17 f18 f19 f20 f21 f22 f23 f24 : Int} (hb : ∀ x ∈ [f1, f2, f3, f4, f5, f6, f7, f8, f9, f10, f11, f12, f13, f14, f15, f16, f17, f18, f19, f20, f21, f22, f23, f24], -1000000 ≤ x ∧ x ≤ 1000000) : overR [f1, f2, f3, f4, f5, f6, f7, f8, f9, f10, f11, f12, f13, f14, f15, f16, f17, f18, f19, f20, f21, f22, f23, f24] = [f1 + f2 + f3 + f4 + f5 + f6 + f7 + f8 + f9 + f10 + f11 + f12 + f13 + f14 + f15 + f16 + f17 + f18 + f19 + f20 + f21 + f22 + f23 + f24, f2 + f4 + f6 + f8 + f10 + f12 + f14 + f16 + f18 + f20 + f22 + f24, f3 + f6 + f9 + f12 + f15 + f18 + f21 + f24, f4 + f8 + f12 + f16 + f20 + f24, f5 + f10 + f15 + f20, f6 + f12 + f18 + f24, f7 + f14 + f21, f8 + f16 + f24, f9 + f18, f10 + f20, f11 + f22, f12 + f24, f13, f14, f15, f16, f17, f18, f19, f20, f21, f22, f23, f24] := by
  have b1 := hb f1 (by simp)
  have b2 := hb f2 (by simp)
  have b3 := hb f3 (by simp)
  have b4 := hb f4 (by simp)
  have b5 := hb f5 (by simp)
  have b6 := hb f6 (by simp)
  have b7 := hb f7 (by simp)
  have b8 := hb f8 (by simp)
  have b9 := hb f9 (by simp)
  have b10 := hb f10 (by simp)
  have b11 := hb f11 (by simp)
  have b12 := hb f12 (by simp)
  have b13 := hb f13 (by simp)
  have b14 := hb f14 (by simp)
  have b15 := hb f15 (by simp)
  have b16 := hb f16 (by simp)
  have b17 := hb f17 (by simp)
  have b18 := hb f18 (by simp)
  have b19 := hb f19 (by simp)
  have b20 := hb f20 (by simp)
  have b21 := hb f21 (by simp)
  have b22 := hb f22 (by simp)
  have b23 := hb f23 (by simp)
  have b24 := hb f24 (by simp)
  clear hb
  unfold overR
  rw [over_spec]
  simp only [Option.getD_some, List.cons.injEq, and_true]
  refine ⟨?_, ?_, ?_, ?_, ?_, ?_, ?_, ?_, ?_, ?_, ?_, ?_, ?_, ?_, ?_, ?_, ?_, ?_, ?_, ?_, ?_, ?_, ?_, ?_⟩
  all_goals first | (simp (disch := omega) only [w64]; omega) | (simp (disch := omega) only [w64]; done) | omega
set_option maxHeartbeats 4000000 in
theorem fmul_val {f1 f2 f3 f4 f5 f6 f7 f8 f9 f10 f11 f12 f13 f14 f15 f16 f17 f18 f19 f20 f21 f22 f23 f24 : Int} (hb : ∀ x ∈ [f1, f2, f3, f4, f5, f6, f7, f8, f9, f10, f11, f12, f13, f14, f15, f16, f17, f18, f19, f20, f21, f22, f23, f24], -1000000 ≤ x ∧ x ≤ 1000000) : fmulR [f1, f2, f3, f4, f5, f6, f7, f8, f9, f10, f11, f12, f13, f14, f15, f16, f17, f18, f19, f20, f21, f22, f23, f24] = [f1 + (-f2) + (-f3) + (-f5) + f6 + (-f7) + f10 + (-f11) + (-f13) + f14 + f15 + (-f17) + (-f19) + f21 + f22 + (-f23), f2 + (-f4) + (-f6) + (-f10) + f12 + (-f14) + f20 + (-f22), f3 + (-f6) + (-f9) + (-f15) + f18 + (-f21), f4 + (-f8) + (-f12) + (-f20) + f24, f5 + (-f10) + (-f15), f6 + (-f12) + (-f18), f7 + (-f14) + (-f21), f8 + (-f16) + (-f24), f9 + (-f18), f10 + (-f20), f11 + (-f22), f12 + (-f24), f13, f14, f15, f16, f17, f18, f19, f20, f21, f22, f23, f24] := by
  have b1 := hb f1 (by simp)
  have b2 := hb f2 (by simp)
  have b3 := hb f3 (by simp)
  have b4 := hb f4 (by simp)
  have b5 := hb f5 (by simp)
  have b6 := hb f6 (by simp)
  have b7 := hb f7 (by simp)
  have b8 := hb f8 (by simp)
  have b9 := hb f9 (by simp)
  have b10 := hb f10 (by simp)
  have b11 := hb f11 (by simp)
  have b12 := hb f12 (by simp)
  have b13 := hb f13 (by simp)
  have b14 := hb f14 (by simp)
  have b15 := hb f15 (by simp)
  have b16 := hb f16 (by simp)
  have b17 := hb f17 (by simp)
  have b18 := hb f18 (by simp)
  have b19 := hb f19 (by simp)
  have b20 := hb f20 (by simp)
  have b21 := hb f21 (by simp)
  have b22 := hb f22 (by simp)
  have b23 := hb f23 (by simp)
  have b24 := hb f24 (by simp)
  clear hb
  unfold fmulR
  rw [show nrow 6 = [1, (-1), (-1), 0, (-1), 1, (-1), 0, 0, 1, (-1), 0, (-1), 1, 1, 0, (-1), 0, (-1), 0, 1, 1, (-1), 0] from by decide, fmul_spec]
  simp only [Option.getD_some, List.cons.injEq, and_true]
  refine ⟨?_, ?_, ?_, ?_, ?_, ?_, ?_, ?_, ?_, ?_, ?_, ?_, ?_, ?_, ?_, ?_, ?_, ?_, ?_, ?_, ?_, ?_, ?_, ?_⟩
  all_goals first | (simp (disch := omega) only [w64]; omega) | (simp (disch := omega) only [w64]; done) | omega
theorem sums_wide {f1 f2 f3 f4 f5 f6 f7 f8 f9 f10 f11 f12 f13 f14 f15 f16 f17 f18 f19 f20 f21 f22 f23 f24 : Int} (hb : ∀ x ∈ [f1, f2, f3, f4, f5, f6, f7, f8, f9, f10, f11, f12, f13, f14, f15, f16, f17, f18, f19, f20, f21, f22, f23, f24], -10000 ≤ x ∧ x ≤ 10000) : ∀ x ∈ [f1, f1 + f2, f1 + f3, f1 + f2 + f4, f1 + f5, f1 + f2 + f3 + f6, f1 + f7, f1 + f2 + f4 + f8, f1 + f3 + f9, f1 + f2 + f5 + f10, f1 + f11, f1 + f2 + f3 + f4 + f6 + f12, f1 + f13, f1 + f2 + f7 + f14, f1 + f3 + f5 + f15, f1 + f2 + f4 + f8 + f16, f1 + f17, f1 + f2 + f3 + f6 + f9 + f18, f1 + f19, f1 + f2 + f4 + f5 + f10 + f20, f1 + f3 + f7 + f21, f1 + f2 + f11 + f22, f1 + f23, f1 + f2 + f3 + f4 + f6 + f8 + f12 + f24], -1000000 ≤ x ∧ x ≤ 1000000 := by
  have b1 := hb f1 (by simp)
  have b2 := hb f2 (by simp)
  have b3 := hb f3 (by simp)
  have b4 := hb f4 (by simp)
  have b5 := hb f5 (by simp)
  have b6 := hb f6 (by simp)
  have b7 := hb f7 (by simp)
  have b8 := hb f8 (by simp)
  have b9 := hb f9 (by simp)
  have b10 := hb f10 (by simp)
  have b11 := hb f11 (by simp)
  have b12 := hb f12 (by simp)
  have b13 := hb f13 (by simp)
  have b14 := hb f14 (by simp)
  have b15 := hb f15 (by simp)
  have b16 := hb f16 (by simp)
  have b17 := hb f17 (by simp)
  have b18 := hb f18 (by simp)
  have b19 := hb f19 (by simp)
  have b20 := hb f20 (by simp)
  have b21 := hb f21 (by simp)
  have b22 := hb f22 (by simp)
  have b23 := hb f23 (by simp)
  have b24 := hb f24 (by simp)
  clear hb
  simp only [List.forall_mem_cons]
  refine ⟨?_, ?_, ?_, ?_, ?_, ?_, ?_, ?_, ?_, ?_, ?_, ?_, ?_, ?_, ?_, ?_, ?_, ?_, ?_, ?_, ?_, ?_, ?_, ?_, by simp⟩
  all_goals omega
theorem sums_back {l : List Int} (h : smB l = true) : dirR (dirR l (nrow 1)) (nrow 6) = l := by
  have hb := sm_all h
  obtain ⟨f1, f2, f3, f4, f5, f6, f7, f8, f9, f10, f11, f12, f13, f14, f15, f16, f17, f18, f19, f20, f21, f22, f23, f24, rfl⟩ := row24 (sm_len h)
  rw [sums_val (fun x hx => by have := hb x hx; omega), froms_val (sums_wide hb)]
  repeat (refine List.cons_eq_cons.2 ⟨by first | rfl | omega, ?_⟩)
  rfl
theorem froms_wide {f1 f2 f3 f4 f5 f6 f7 f8 f9 f10 f11 f12 f13 f14 f15 f16 f17 f18 f19 f20 f21 f22 f23 f24 : Int} (hb : ∀ x ∈ [f1, f2, f3, f4, f5, f6, f7, f8, f9, f10, f11, f12, f13, f14, f15, f16, f17, f18, f19, f20, f21, f22, f23, f24], -10000 ≤ x ∧ x ≤ 10000) : ∀ x ∈ [f1, (-f1) + f2, (-f1) + f3, (-f2) + f4, (-f1) + f5, f1 + (-f2) + (-f3) + f6, (-f1) + f7, (-f4) + f8, (-f3) + f9, f1 + (-f2) + (-f5) + f10, (-f1) + f11, f2 + (-f4) + (-f6) + f12, (-f1) + f13, f1 + (-f2) + (-f7) + f14, f1 + (-f3) + (-f5) + f15, (-f8) + f16, (-f1) + f17, f3 + (-f6) + (-f9) + f18, (-f1) + f19, f2 + (-f4) + (-f10) + f20, f1 + (-f3) + (-f7) + f21, f1 + (-f2) + (-f11) + f22, (-f1) + f23, f4 + (-f8) + (-f12) + f24], -1000000 ≤ x ∧ x ≤ 1000000 := by
  have b1 := hb f1 (by simp)
  have b2 := hb f2 (by simp)
  have b3 := hb f3 (by simp)
  have b4 := hb f4 (by simp)
  have b5 := hb f5 (by simp)
  have b6 := hb f6 (by simp)
  have b7 := hb f7 (by simp)
  have b8 := hb f8 (by simp)
  have b9 := hb f9 (by simp)
  have b10 := hb f10 (by simp)
  have b11 := hb f11 (by simp)
  have b12 := hb f12 (by simp)
  have b13 := hb f13 (by simp)
  have b14 := hb f14 (by simp)
  have b15 := hb f15 (by simp)
  have b16 := hb f16 (by simp)
  have b17 := hb f17 (by simp)
  have b18 := hb f18 (by simp)
  have b19 := hb f19 (by simp)
  have b20 := hb f20 (by simp)
  have b21 := hb f21 (by simp)
  have b22 := hb f22 (by simp)
  have b23 := hb f23 (by simp)
  have b24 := hb f24 (by simp)
  clear hb
  simp only [List.forall_mem_cons]
  refine ⟨?_, ?_, ?_, ?_, ?_, ?_, ?_, ?_, ?_, ?_, ?_, ?_, ?_, ?_, ?_, ?_, ?_, ?_, ?_, ?_, ?_, ?_, ?_, ?_, by simp⟩
  all_goals omega
theorem froms_back {l : List Int} (h : smB l = true) : dirR (dirR l (nrow 6)) (nrow 1) = l := by
  have hb := sm_all h
  obtain ⟨f1, f2, f3, f4, f5, f6, f7, f8, f9, f10, f11, f12, f13, f14, f15, f16, f17, f18, f19, f20, f21, f22, f23, f24, rfl⟩ := row24 (sm_len h)
  rw [froms_val (fun x hx => by have := hb x hx; omega), sums_val (froms_wide hb)]
  repeat (refine List.cons_eq_cons.2 ⟨by first | rfl | omega, ?_⟩)
  rfl
theorem rsum_wide {f1 f2 f3 f4 f5 f6 f7 f8 f9 f10 f11 f12 f13 f14 f15 f16 f17 f18 f19 f20 f21 f22 f23 f24 : Int} (hb : ∀ x ∈ [f1, f2, f3, f4, f5, f6, f7, f8, f9, f10, f11, f12, f13, f14, f15, f16, f17, f18, f19, f20, f21, f22, f23, f24], -10000 ≤ x ∧ x ≤ 10000) : ∀ x ∈ [f1, f2 + f1, f3 + f1 + f1, f4 + f2 + f1 + f1, f5 + f2 + f1 + f1 + f1, f6 + f3 + f2 + f1 + f1 + f1, f7 + f3 + f2 + f1 + f1 + f1 + f1, f8 + f4 + f2 + f2 + f1 + f1 + f1 + f1, f9 + f4 + f3 + f2 + f1 + f1 + f1 + f1 + f1, f10 + f5 + f3 + f2 + f2 + f1 + f1 + f1 + f1 + f1, f11 + f5 + f3 + f2 + f2 + f1 + f1 + f1 + f1 + f1 + f1, f12 + f6 + f4 + f3 + f2 + f2 + f1 + f1 + f1 + f1 + f1 + f1, f13 + f6 + f4 + f3 + f2 + f2 + f1 + f1 + f1 + f1 + f1 + f1 + f1, f14 + f7 + f4 + f3 + f2 + f2 + f2 + f1 + f1 + f1 + f1 + f1 + f1 + f1, f15 + f7 + f5 + f3 + f3 + f2 + f2 + f1 + f1 + f1 + f1 + f1 + f1 + f1 + f1, f16 + f8 + f5 + f4 + f3 + f2 + f2 + f2 + f1 + f1 + f1 + f1 + f1 + f1 + f1 + f1, f17 + f8 + f5 + f4 + f3 + f2 + f2 + f2 + f1 + f1 + f1 + f1 + f1 + f1 + f1 + f1 + f1, f18 + f9 + f6 + f4 + f3 + f3 + f2 + f2 + f2 + f1 + f1 + f1 + f1 + f1 + f1 + f1 + f1 + f1, f19 + f9 + f6 + f4 + f3 + f3 + f2 + f2 + f2 + f1 + f1 + f1 + f1 + f1 + f1 + f1 + f1 + f1 + f1, f20 + f10 + f6 + f5 + f4 + f3 + f2 + f2 + f2 + f2 + f1 + f1 + f1 + f1 + f1 + f1 + f1 + f1 + f1 + f1, f21 + f10 + f7 + f5 + f4 + f3 + f3 + f2 + f2 + f2 + f1 + f1 + f1 + f1 + f1 + f1 + f1 + f1 + f1 + f1 + f1, f22 + f11 + f7 + f5 + f4 + f3 + f3 + f2 + f2 + f2 + f2 + f1 + f1 + f1 + f1 + f1 + f1 + f1 + f1 + f1 + f1 + f1, f23 + f11 + f7 + f5 + f4 + f3 + f3 + f2 + f2 + f2 + f2 + f1 + f1 + f1 + f1 + f1 + f1 + f1 + f1 + f1 + f1 + f1 + f1, f24 + f12 + f8 + f6 + f4 + f4 + f3 + f3 + f2 + f2 + f2 + f2 + f1 + f1 + f1 + f1 + f1 + f1 + f1 + f1 + f1 + f1 + f1 + f1], -1000000 ≤ x ∧ x ≤ 1000000 := by
  have b1 := hb f1 (by simp)
  have b2 := hb f2 (by simp)
  have b3 := hb f3 (by simp)
  have b4 := hb f4 (by simp)
  have b5 := hb f5 (by simp)
  have b6 := hb f6 (by simp)
  have b7 := hb f7 (by simp)
  have b8 := hb f8 (by simp)
  have b9 := hb f9 (by simp)
  have b10 := hb f10 (by simp)
  have b11 := hb f11 (by simp)
  have b12 := hb f12 (by simp)
  have b13 := hb f13 (by simp)
  have b14 := hb f14 (by simp)
  have b15 := hb f15 (by simp)
  have b16 := hb f16 (by simp)
  have b17 := hb f17 (by simp)
  have b18 := hb f18 (by simp)
  have b19 := hb f19 (by simp)
  have b20 := hb f20 (by simp)
  have b21 := hb f21 (by simp)
  have b22 := hb f22 (by simp)
  have b23 := hb f23 (by simp)
  have b24 := hb f24 (by simp)
  clear hb
  simp only [List.forall_mem_cons]
  refine ⟨?_, ?_, ?_, ?_, ?_, ?_, ?_, ?_, ?_, ?_, ?_, ?_, ?_, ?_, ?_, ?_, ?_, ?_, ?_, ?_, ?_, ?_, ?_, ?_, by simp⟩
  all_goals omega
theorem rsum_back {l : List Int} (h : smB l = true) : frndR (rsumR l) = l := by
  have hb := sm_all h
  obtain ⟨f1, f2, f3, f4, f5, f6, f7, f8, f9, f10, f11, f12, f13, f14, f15, f16, f17, f18, f19, f20, f21, f22, f23, f24, rfl⟩ := row24 (sm_len h)
  rw [rsum_val (fun x hx => by have := hb x hx; omega), frnd_val (rsum_wide hb)]
  repeat (refine List.cons_eq_cons.2 ⟨by first | rfl | omega, ?_⟩)
  rfl
theorem frnd_wide {f1 f2 f3 f4 f5 f6 f7 f8 f9 f10 f11 f12 f13 f14 f15 f16 f17 f18 f19 f20 f21 f22 f23 f24 : Int} (hb : ∀ x ∈ [f1, f2, f3, f4, f5, f6, f7, f8, f9, f10, f11, f12, f13, f14, f15, f16, f17, f18, f19, f20, f21, f22, f23, f24], -10000 ≤ x ∧ x ≤ 10000) : ∀ x ∈ [f1, f2 + (-f1), f3 + (-f1) + (-f1), f4 + (-f2) + (-f1), f5 + (-f2) + (-f1) + (-f1), f6 + (-f3) + (-f2) + (-f1) + f1, f7 + (-f3) + (-f2) + (-f1) + f1 + (-f1), f8 + (-f4) + (-f2) + (-f1) + f1 + (-f1), f9 + (-f4) + (-f3) + (-f1) + f1 + (-f1), f10 + (-f5) + (-f3) + (-f2) + f1 + (-f1) + f1, f11 + (-f5) + (-f3) + (-f2) + f1 + (-f1) + f1 + (-f1), f12 + (-f6) + (-f4) + (-f2) + f2 + (-f1) + f1 + (-f1), f13 + (-f6) + (-f4) + (-f2) + f2 + (-f1) + f1 + (-f1) + (-f1), f14 + (-f7) + (-f4) + (-f2) + f2 + (-f2) + f1 + (-f1) + (-f1) + f1, f15 + (-f7) + (-f5) + (-f3) + f2 + (-f2) + f1 + (-f1) + (-f1) + f1 + f1, f16 + (-f8) + (-f5) + (-f3) + f2 + (-f2) + f1 + (-f1) + (-f1) + f1 + f1, f17 + (-f8) + (-f5) + (-f3) + f2 + (-f2) + f1 + (-f1) + (-f1) + f1 + f1 + (-f1), f18 + (-f9) + (-f6) + (-f3) + f3 + (-f2) + f1 + (-f1) + (-f1) + f1 + f1 + (-f1), f19 + (-f9) + (-f6) + (-f3) + f3 + (-f2) + f1 + (-f1) + (-f1) + f1 + f1 + (-f1) + (-f1), f20 + (-f10) + (-f6) + (-f4) + f3 + (-f2) + f2 + (-f1) + (-f1) + f1 + f1 + (-f1) + (-f1), f21 + (-f10) + (-f7) + (-f4) + f3 + (-f3) + f2 + (-f1) + (-f1) + f1 + f1 + (-f1) + (-f1) + f1, f22 + (-f11) + (-f7) + (-f4) + f3 + (-f3) + f2 + (-f2) + (-f1) + f1 + f1 + (-f1) + (-f1) + f1 + f1, f23 + (-f11) + (-f7) + (-f4) + f3 + (-f3) + f2 + (-f2) + (-f1) + f1 + f1 + (-f1) + (-f1) + f1 + f1 + (-f1), f24 + (-f12) + (-f8) + (-f4) + f4 + (-f3) + f2 + (-f2) + (-f1) + f1 + f1 + (-f1) + (-f1) + f1 + f1 + (-f1)], -1000000 ≤ x ∧ x ≤ 1000000 := by
  have b1 := hb f1 (by simp)
  have b2 := hb f2 (by simp)
  have b3 := hb f3 (by simp)
  have b4 := hb f4 (by simp)
  have b5 := hb f5 (by simp)
  have b6 := hb f6 (by simp)
  have b7 := hb f7 (by simp)
  have b8 := hb f8 (by simp)
  have b9 := hb f9 (by simp)
  have b10 := hb f10 (by simp)
  have b11 := hb f11 (by simp)
  have b12 := hb f12 (by simp)
  have b13 := hb f13 (by simp)
  have b14 := hb f14 (by simp)
  have b15 := hb f15 (by simp)
  have b16 := hb f16 (by simp)
  have b17 := hb f17 (by simp)
  have b18 := hb f18 (by simp)
  have b19 := hb f19 (by simp)
  have b20 := hb f20 (by simp)
  have b21 := hb f21 (by simp)
  have b22 := hb f22 (by simp)
  have b23 := hb f23 (by simp)
  have b24 := hb f24 (by simp)
  clear hb
  simp only [List.forall_mem_cons]
  refine ⟨?_, ?_, ?_, ?_, ?_, ?_, ?_, ?_, ?_, ?_, ?_, ?_, ?_, ?_, ?_, ?_, ?_, ?_, ?_, ?_, ?_, ?_, ?_, ?_, by simp⟩
  all_goals omega
theorem frnd_back {l : List Int} (h : smB l = true) : rsumR (frndR l) = l := by
  have hb := sm_all h
  obtain ⟨f1, f2, f3, f4, f5, f6, f7, f8, f9, f10, f11, f12, f13, f14, f15, f16, f17, f18, f19, f20, f21, f22, f23, f24, rfl⟩ := row24 (sm_len h)
  rw [frnd_val (fun x hx => by have := hb x hx; omega), rsum_val (frnd_wide hb)]
  repeat (refine List.cons_eq_cons.2 ⟨by first | rfl | omega, ?_⟩)
  rfl
theorem over_wide {f1 f2 f3 f4 f5 f6 f7 f8 f9 f10 f11 f12 f13 f14 f15 f16 f17 f18 f19 f20 f21 f22 f23 f24 : Int} (hb : ∀ x ∈ [f1, f2, f3, f4, f5, f6, f7, f8, f9, f10, f11, f12, f13, f14, f15, f16, f17, f18, f19, f20, f21, f22, f23, f24], -10000 ≤ x ∧ x ≤ 10000) : ∀ x ∈ [f1 + f2 + f3 + f4 + f5 + f6 + f7 + f8 + f9 + f10 + f11 + f12 + f13 + f14 + f15 + f16 + f17 + f18 + f19 + f20 + f21 + f22 + f23 + f24, f2 + f4 + f6 + f8 + f10 + f12 + f14 + f16 + f18 + f20 + f22 + f24, f3 + f6 + f9 + f12 + f15 + f18 + f21 + f24, f4 + f8 + f12 + f16 + f20 + f24, f5 + f10 + f15 + f20, f6 + f12 + f18 + f24, f7 + f14 + f21, f8 + f16 + f24, f9 + f18, f10 + f20, f11 + f22, f12 + f24, f13, f14, f15, f16, f17, f18, f19, f20, f21, f22, f23, f24], -1000000 ≤ x ∧ x ≤ 1000000 := by
  have b1 := hb f1 (by simp)
  have b2 := hb f2 (by simp)
  have b3 := hb f3 (by simp)
  have b4 := hb f4 (by simp)
  have b5 := hb f5 (by simp)
  have b6 := hb f6 (by simp)
  have b7 := hb f7 (by simp)
  have b8 := hb f8 (by simp)
  have b9 := hb f9 (by simp)
  have b10 := hb f10 (by simp)
  have b11 := hb f11 (by simp)
  have b12 := hb f12 (by simp)
  have b13 := hb f13 (by simp)
  have b14 := hb f14 (by simp)
  have b15 := hb f15 (by simp)
  have b16 := hb f16 (by simp)
  have b17 := hb f17 (by simp)
  have b18 := hb f18 (by simp)
  have b19 := hb f19 (by simp)
  have b20 := hb f20 (by simp)
  have b21 := hb f21 (by simp)
  have b22 := hb f22 (by simp)
  have b23 := hb f23 (by simp)
  have b24 := hb f24 (by simp)
  clear hb
  simp only [List.forall_mem_cons]
  refine ⟨?_, ?_, ?_, ?_, ?_, ?_, ?_, ?_, ?_, ?_, ?_, ?_, ?_, ?_, ?_, ?_, ?_, ?_, ?_, ?_, ?_, ?_, ?_, ?_, by simp⟩
  all_goals omega
theorem over_back {l : List Int} (h : smB l = true) : fmulR (overR l) = l := by
  have hb := sm_all h
  obtain ⟨f1, f2, f3, f4, f5, f6, f7, f8, f9, f10, f11, f12, f13, f14, f15, f16, f17, f18, f19, f20, f21, f22, f23, f24, rfl⟩ := row24 (sm_len h)
  rw [over_val (fun x hx => by have := hb x hx; omega), fmul_val (over_wide hb)]
  repeat (refine List.cons_eq_cons.2 ⟨by first | rfl | omega, ?_⟩)
  rfl
theorem fmul_wide {f1 f2 f3 f4 f5 f6 f7 f8 f9 f10 f11 f12 f13 f14 f15 f16 f17 f18 f19 f20 f21 f22 f23 f24 : Int} (hb : ∀ x ∈ [f1, f2, f3, f4, f5, f6, f7, f8, f9, f10, f11, f12, f13, f14, f15, f16, f17, f18, f19, f20, f21, f22, f23, f24], -10000 ≤ x ∧ x ≤ 10000) : ∀ x ∈ [f1 + (-f2) + (-f3) + (-f5) + f6 + (-f7) + f10 + (-f11) + (-f13) + f14 + f15 + (-f17) + (-f19) + f21 + f22 + (-f23), f2 + (-f4) + (-f6) + (-f10) + f12 + (-f14) + f20 + (-f22), f3 + (-f6) + (-f9) + (-f15) + f18 + (-f21), f4 + (-f8) + (-f12) + (-f20) + f24, f5 + (-f10) + (-f15), f6 + (-f12) + (-f18), f7 + (-f14) + (-f21), f8 + (-f16) + (-f24), f9 + (-f18), f10 + (-f20), f11 + (-f22), f12 + (-f24), f13, f14, f15, f16, f17, f18, f19, f20, f21, f22, f23, f24], -1000000 ≤ x ∧ x ≤ 1000000 := by
  have b1 := hb f1 (by simp)
  have b2 := hb f2 (by simp)
  have b3 := hb f3 (by simp)
  have b4 := hb f4 (by simp)
  have b5 := hb f5 (by simp)
  have b6 := hb f6 (by simp)
  have b7 := hb f7 (by simp)
  have b8 := hb f8 (by simp)
  have b9 := hb f9 (by simp)
  have b10 := hb f10 (by simp)
  have b11 := hb f11 (by simp)
  have b12 := hb f12 (by simp)
  have b13 := hb f13 (by simp)
  have b14 := hb f14 (by simp)
  have b15 := hb f15 (by simp)
  have b16 := hb f16 (by simp)
  have b17 := hb f17 (by simp)
  have b18 := hb f18 (by simp)
  have b19 := hb f19 (by simp)
  have b20 := hb f20 (by simp)
  have b21 := hb f21 (by simp)
  have b22 := hb f22 (by simp)
  have b23 := hb f23 (by simp)
  have b24 := hb f24 (by simp)
  clear hb
  simp only [List.forall_mem_cons]
  refine ⟨?_, ?_, ?_, ?_, ?_, ?_, ?_, ?_, ?_, ?_, ?_, ?_, ?_, ?_, ?_, ?_, ?_, ?_, ?_, ?_, ?_, ?_, ?_, ?_, by simp⟩
  all_goals omega
theorem fmul_back {l : List Int} (h : smB l = true) : overR (fmulR l) = l := by
  have hb := sm_all h
  obtain ⟨f1, f2, f3, f4, f5, f6, f7, f8, f9, f10, f11, f12, f13, f14, f15, f16, f17, f18, f19, f20, f21, f22, f23, f24, rfl⟩ := row24 (sm_len h)
  rw [fmul_val (fun x hx => by have := hb x hx; omega), over_val (fmul_wide hb)]
  repeat (refine List.cons_eq_cons.2 ⟨by first | rfl | omega, ?_⟩)
  rfl
theorem rsum_ones : rsumR (nrow 1) = nrow 2 := by kernel_rfl
theorem frnd_two : frndR (nrow 2) = nrow 1 := by kernel_rfl
theorem sums_first {l : List Int} (h : smB l = true) : rd (dirR l (nrow 1)) 0 = rd l 0 ∧ (dirR l (nrow 1)).length = 24 := by
  have hb := sm_all h
  obtain ⟨f1, f2, f3, f4, f5, f6, f7, f8, f9, f10, f11, f12, f13, f14, f15, f16, f17, f18, f19, f20, f21, f22, f23, f24, rfl⟩ := row24 (sm_len h)
  rw [sums_val (fun x hx => by have := hb x hx; omega)]
  exact ⟨rfl, rfl⟩
theorem froms_first {l : List Int} (h : smB l = true) : rd (dirR l (nrow 6)) 0 = rd l 0 ∧ (dirR l (nrow 6)).length = 24 := by
  have hb := sm_all h
  obtain ⟨f1, f2, f3, f4, f5, f6, f7, f8, f9, f10, f11, f12, f13, f14, f15, f16, f17, f18, f19, f20, f21, f22, f23, f24, rfl⟩ := row24 (sm_len h)
  rw [froms_val (fun x hx => by have := hb x hx; omega)]
  exact ⟨rfl, rfl⟩
theorem rsum_len {l : List Int} (h : smB l = true) : (rsumR l).length = 24 := by
  have hb := sm_all h
  obtain ⟨f1, f2, f3, f4, f5, f6, f7, f8, f9, f10, f11, f12, f13, f14, f15, f16, f17, f18, f19, f20, f21, f22, f23, f24, rfl⟩ := row24 (sm_len h)
  rw [rsum_val (fun x hx => by have := hb x hx; omega)]
  rfl
theorem frnd_len {l : List Int} (h : smB l = true) : (frndR l).length = 24 := by
  have hb := sm_all h
  obtain ⟨f1, f2, f3, f4, f5, f6, f7, f8, f9, f10, f11, f12, f13, f14, f15, f16, f17, f18, f19, f20, f21, f22, f23, f24, rfl⟩ := row24 (sm_len h)
  rw [frnd_val (fun x hx => by have := hb x hx; omega)]
  rfl
theorem over_len {l : List Int} (h : smB l = true) : (overR l).length = 24 := by
  have hb := sm_all h
  obtain ⟨f1, f2, f3, f4, f5, f6, f7, f8, f9, f10, f11, f12, f13, f14, f15, f16, f17, f18, f19, f20, f21, f22, f23, f24, rfl⟩ := row24 (sm_len h)
  rw [over_val (fun x hx => by have := hb x hx; omega)]
  rfl
theorem fmul_len {l : List Int} (h : smB l = true) : (fmulR l).length = 24 := by
  have hb := sm_all h
  obtain ⟨f1, f2, f3, f4, f5, f6, f7, f8, f9, f10, f11, f12, f13, f14, f15, f16, f17, f18, f19, f20, f21, f22, f23, f24, rfl⟩ := row24 (sm_len h)
  rw [fmul_val (fun x hx => by have := hb x hx; omega)]
  rfl

end Go.Proofs.Ytdhcgobkkgchpaa.Tell
